/-
  Parts of the proof: B13, Trp.
-/
import Derived.Test.YtjhpiclnpmdjnaaGreatDoorQ08
import Derived.Test.YtjhpiclnpmdjnaaGreatDoorQ12
import Derived.Test.YtjhpiclnpmdjnaaGreatDoorQ16
import Derived.Laws.Tables
namespace Go.Proofs.YtjhpiclnpmdjnaaGreatDoor.Bm
open Go Go.RowKit
open Go.Proofs.YtjhpiclnpmdjnaaGreatDoor
open Go.Proofs.YtjhpiclnpmdjnaaGreatDoor.Ln (flat flat_len flat_get flat_mem RowIn OwnR Idx bl2 results2_cell Blk_setRow_same Blk_setRow_ne Below_setRow)
set_option linter.unusedSimpArgs false
set_option linter.unusedVariables false
set_option maxRecDepth 100000

def En.sld (e : En) (n : Int) (la : Option Addr) (lk : Nat) (r : Int) : En := { e with id := n, la := la, lk := lk, ch := r }
theorem EnS.sld {e : En} (h : EnS e) {n : Int} (hn : 0 ≤ n ∧ n ≤ 100001) (la : Option Addr) (lk : Nat) (r : Int) : EnS (e.sld n la lk r) :=
 ⟨⟨by have : (e.sld n la lk r).id = n := rfl; omega, by have : (e.sld n la lk r).id = n := rfl; omega⟩, h.n1, h.n2, h.n3, h.n4, h.n5, h.ke, h.tx, h.ln, h.lg⟩
set_option maxHeartbeats 8000000 in
theorem sealed_any (e0 : En) (n ch : Int) (w : World) (h : EnS e0) (hn : 0 ≤ n ∧ n ≤ 100000) (hl : RowIn lgenc w e0.la e0.lg) (ht : Tab w) : Calls Tryz.prog 62 #[(.agg #[.int .i64 (e0).id, .int .i64 (e0).bo, .int .i64 (e0).va, .int .i64 (e0).ki, .int .i64 (e0).au, .int .i64 (e0).pe, .string (e0).ke, .string (e0).tx, .slice (e0).la (e0).lg.length (e0).lk, .int .u64 (e0).ch]), .int .i64 n, .int .u64 ch] w fun e w' => ∃ la lk r, e = .returned ((.agg #[.int .i64 ((e0.sld (n + 1) la lk r)).id, .int .i64 ((e0.sld (n + 1) la lk r)).bo, .int .i64 ((e0.sld (n + 1) la lk r)).va, .int .i64 ((e0.sld (n + 1) la lk r)).ki, .int .i64 ((e0.sld (n + 1) la lk r)).au, .int .i64 ((e0.sld (n + 1) la lk r)).pe, .string ((e0.sld (n + 1) la lk r)).ke, .string ((e0.sld (n + 1) la lk r)).tx, .slice ((e0.sld (n + 1) la lk r)).la ((e0.sld (n + 1) la lk r)).lg.length ((e0.sld (n + 1) la lk r)).lk, .int .u64 ((e0.sld (n + 1) la lk r)).ch])) ∧ RowIn lgenc w' la e0.lg ∧ (∀ ad, la = some ad → w.heap.size ≤ ad.block) ∧ Below w.heap.size w w' := by
 have cw : Below w.heap.size w ((w.alloc (.cells #[.int .i64 (e0).id, .int .i64 (e0).bo, .int .i64 (e0).va, .int .i64 (e0).ki, .int .i64 (e0).au, .int .i64 (e0).pe, .string (e0).ke, .string (e0).tx, .slice (e0).la (e0).lg.length (e0).lk, .int .u64 (e0).ch] 39)).alloc (.cells #[.int .i64 0, .int .i64 0, .int .i64 0, .int .i64 0, .int .i64 0, .int .i64 0, .string { data := #[] }, .string { data := #[] }, .slice none 0 0, .int .u64 0] 39)) := Bk.be
 have ke : Bk.Blk ((w.alloc (.cells #[.int .i64 (e0).id, .int .i64 (e0).bo, .int .i64 (e0).va, .int .i64 (e0).ki, .int .i64 (e0).au, .int .i64 (e0).pe, .string (e0).ke, .string (e0).tx, .slice (e0).la (e0).lg.length (e0).lk, .int .u64 (e0).ch] 39)).alloc (.cells #[.int .i64 0, .int .i64 0, .int .i64 0, .int .i64 0, .int .i64 0, .int .i64 0, .string { data := #[] }, .string { data := #[] }, .slice none 0 0, .int .u64 0] 39)) w.heap.size _ 39 := Bk.Blk.nw20
 have kz : Bk.Blk ((w.alloc (.cells #[.int .i64 (e0).id, .int .i64 (e0).bo, .int .i64 (e0).va, .int .i64 (e0).ki, .int .i64 (e0).au, .int .i64 (e0).pe, .string (e0).ke, .string (e0).tx, .slice (e0).la (e0).lg.length (e0).lk, .int .u64 (e0).ch] 39)).alloc (.cells #[.int .i64 0, .int .i64 0, .int .i64 0, .int .i64 0, .int .i64 0, .int .i64 0, .string { data := #[] }, .string { data := #[] }, .slice none 0 0, .int .u64 0] 39)) (w.heap.size + 1) _ 39 := Bk.Blk.nw21
 have HL := Lib.hid (fun (W : World) (hW : Below w.heap.size w W) => hl.later hW)
 have HT := Lib.hid (fun (W : World) (hW : Below w.heap.size w W) => ht.of hW)
 have HG := Lib.hid h
 clear h hl ht
 go_enter Tryz.func62, Tryz.ntmps62
 go_upto_region 1 with fail
 generalize ((w.alloc (.cells _ 39)).alloc (.cells _ 39)) = w1 at *
 have e0c := ke.c0
 have e0f := ke.f0
 go_upto_region 2 with fail
 have c2 : Below w.heap.size w (w1.setCell ⟨w.heap.size, 0, none⟩ (.int .i64 (n + 1))) := cw.setCell (Nat.le_refl _) _
 have ke2 : Bk.Blk (w1.setCell ⟨w.heap.size, 0, none⟩ (.int .i64 (n + 1))) w.heap.size #[.int .i64 ((e0.sld (n + 1) e0.la e0.lk e0.ch)).id, .int .i64 ((e0.sld (n + 1) e0.la e0.lk e0.ch)).bo, .int .i64 ((e0.sld (n + 1) e0.la e0.lk e0.ch)).va, .int .i64 ((e0.sld (n + 1) e0.la e0.lk e0.ch)).ki, .int .i64 ((e0.sld (n + 1) e0.la e0.lk e0.ch)).au, .int .i64 ((e0.sld (n + 1) e0.la e0.lk e0.ch)).pe, .string ((e0.sld (n + 1) e0.la e0.lk e0.ch)).ke, .string ((e0.sld (n + 1) e0.la e0.lk e0.ch)).tx, .slice ((e0.sld (n + 1) e0.la e0.lk e0.ch)).la ((e0.sld (n + 1) e0.la e0.lk e0.ch)).lg.length ((e0.sld (n + 1) e0.la e0.lk e0.ch)).lk, .int .u64 ((e0.sld (n + 1) e0.la e0.lk e0.ch)).ch] 39 := Bk.Blk.set_same ke
 have kz2 : Bk.Blk (w1.setCell ⟨w.heap.size, 0, none⟩ (.int .i64 (n + 1))) (w.heap.size + 1) #[.int .i64 0, .int .i64 0, .int .i64 0, .int .i64 0, .int .i64 0, .int .i64 0, .string { data := #[] }, .string { data := #[] }, .slice none 0 0, .int .u64 0] 39 := Bk.Blk.set_ne kz (by omega)
 generalize (w1.setCell ⟨w.heap.size, 0, none⟩ (.int .i64 (n + 1))) = w2 at *
 clear ke kz e0c e0f cw
 have l8 := ke2.c8
 go_wp2_with fail
 refine (clonel_any e0.la e0.lk e0.lg w2 (HL.out _ c2) (by have := HG.out.ln; omega)).mono ?_
 rintro e w3 ⟨hb, a3, c3, rfl, hrow3, hnew3⟩
 have c3' := bl2 hb c2
 have ke3 := ke2.later hb
 have kz3 := kz2.later hb
 have z2 := kz2.lt
 have l8c := ke3.c8
 have l8f : w3.frozen? ⟨w.heap.size, 8, none⟩ = false := Bk.Blk.free ke3 8
 have HN3 := Lib.hid (fun (ad : Addr) (had : a3 = some ad) => (show w.heap.size + 1 < ad.block by have := hnew3 ad had; omega))
 clear hb c2 ke2 kz2 l8 hnew3
 go_upto_region 3 with fail
 have c4 : Below w.heap.size w (w3.setCell ⟨w.heap.size, 8, none⟩ (.slice a3 e0.lg.length c3)) := c3'.setCell (Nat.le_refl _) _
 have ke4 : Bk.Blk (w3.setCell ⟨w.heap.size, 8, none⟩ (.slice a3 e0.lg.length c3)) w.heap.size #[.int .i64 ((e0.sld (n + 1) a3 c3 e0.ch)).id, .int .i64 ((e0.sld (n + 1) a3 c3 e0.ch)).bo, .int .i64 ((e0.sld (n + 1) a3 c3 e0.ch)).va, .int .i64 ((e0.sld (n + 1) a3 c3 e0.ch)).ki, .int .i64 ((e0.sld (n + 1) a3 c3 e0.ch)).au, .int .i64 ((e0.sld (n + 1) a3 c3 e0.ch)).pe, .string ((e0.sld (n + 1) a3 c3 e0.ch)).ke, .string ((e0.sld (n + 1) a3 c3 e0.ch)).tx, .slice ((e0.sld (n + 1) a3 c3 e0.ch)).la ((e0.sld (n + 1) a3 c3 e0.ch)).lg.length ((e0.sld (n + 1) a3 c3 e0.ch)).lk, .int .u64 ((e0.sld (n + 1) a3 c3 e0.ch)).ch] 39 := Bk.Blk.set_same ke3
 have kz4 : Bk.Blk (w3.setCell ⟨w.heap.size, 8, none⟩ (.slice a3 e0.lg.length c3)) (w.heap.size + 1) #[.int .i64 0, .int .i64 0, .int .i64 0, .int .i64 0, .int .i64 0, .int .i64 0, .string { data := #[] }, .string { data := #[] }, .slice none 0 0, .int .u64 0] 39 := Bk.Blk.set_ne kz3 (by omega)
 have hrow4 : RowIn lgenc (w3.setCell ⟨w.heap.size, 8, none⟩ (.slice a3 e0.lg.length c3)) a3 e0.lg := Ln.row_put hrow3 (fun ad had => by have := HN3.out ad had; show ad.block ≠ w.heap.size; omega)
 generalize (w3.setCell ⟨w.heap.size, 8, none⟩ (.slice a3 e0.lg.length c3)) = w4 at *
 clear ke3 kz3 l8c l8f c3' hrow3
 go_wp2_with ((refine wpList_load_row rfl 39 _ rfl _ rfl _ _ _ _ (ke4) Tryz.underlying39 rfl (by kernel_rfl) ?_))
 refine (encode_any (e0.sld (n + 1) a3 c3 e0.ch) w4 (HG.out.sld (by omega) _ _ _) hrow4 (HT.out _ c4)).mono ?_
 rintro e w5 ⟨⟨s, rfl, hs⟩, hb⟩
 have c5 := bl2 hb c4
 have ke5 := ke4.later hb
 have kz5 := kz4.later hb
 have hrow5 := hrow4.later hb
 have HS := Lib.hid (show s.size ≤ maxLen by unfold maxLen; omega)
 clear hb c4 ke4 kz4 hrow4 hs
 go_wp2_with fail
 refine (chain_any _ _ _ HS.out).mono ?_
 rintro e w' ⟨⟨r, rfl⟩, rfl⟩
 have l9c := ke5.c9
 have l9f : w5.frozen? ⟨w.heap.size, 9, none⟩ = false := Bk.Blk.free ke5 9
 go_upto_region 4 with fail
 have c6 : Below w.heap.size w (w5.setCell ⟨w.heap.size, 9, none⟩ (.int .u64 r)) := c5.setCell (Nat.le_refl _) _
 have ke6 : Bk.Blk (w5.setCell ⟨w.heap.size, 9, none⟩ (.int .u64 r)) w.heap.size #[.int .i64 ((e0.sld (n + 1) a3 c3 r)).id, .int .i64 ((e0.sld (n + 1) a3 c3 r)).bo, .int .i64 ((e0.sld (n + 1) a3 c3 r)).va, .int .i64 ((e0.sld (n + 1) a3 c3 r)).ki, .int .i64 ((e0.sld (n + 1) a3 c3 r)).au, .int .i64 ((e0.sld (n + 1) a3 c3 r)).pe, .string ((e0.sld (n + 1) a3 c3 r)).ke, .string ((e0.sld (n + 1) a3 c3 r)).tx, .slice ((e0.sld (n + 1) a3 c3 r)).la ((e0.sld (n + 1) a3 c3 r)).lg.length ((e0.sld (n + 1) a3 c3 r)).lk, .int .u64 ((e0.sld (n + 1) a3 c3 r)).ch] 39 := Bk.Blk.set_same ke5
 have kz6 : Bk.Blk (w5.setCell ⟨w.heap.size, 9, none⟩ (.int .u64 r)) (w.heap.size + 1) #[.int .i64 0, .int .i64 0, .int .i64 0, .int .i64 0, .int .i64 0, .int .i64 0, .string { data := #[] }, .string { data := #[] }, .slice none 0 0, .int .u64 0] 39 := Bk.Blk.set_ne kz5 (by omega)
 have hrow6 : RowIn lgenc (w5.setCell ⟨w.heap.size, 9, none⟩ (.int .u64 r)) a3 e0.lg := Ln.row_put hrow5 (fun ad had => by have := HN3.out ad had; show ad.block ≠ w.heap.size; omega)
 generalize (w5.setCell ⟨w.heap.size, 9, none⟩ (.int .u64 r)) = w6 at *
 clear ke5 kz5 l9c l9f c5 hrow5
 go_wp2_with (first | (refine wpList_load_row rfl 39 _ rfl _ rfl _ _ _ _ (ke6) Tryz.underlying39 rfl (by kernel_rfl) ?_) | (refine wpList_store_row rfl 39 _ _ rfl _ _ rfl rfl _ _ (kz6) (by kernel_rfl) rfl (by simp [Value.oneCell']) ?_))
 (try simp only [Exit.inBlock, Exit.then])
 refine bodyPost_ret (results_cell_row Tryz.results62 _ _ _ _ _ _ _ rfl (Blk_setRow_same kz6) Tryz.underlying39 rfl (by kernel_rfl)) rfl ?_
 exact ⟨a3, c3, r, rfl, Ln.row_row hrow6 (fun ad had => by have := HN3.out ad had; omega), fun ad had => by have := HN3.out ad had; omega, Below_setRow c6 (by omega) _⟩
def zEn : En := default
set_option maxHeartbeats 16000000 in
theorem jpost0_any (e0 : En) (c : ByteArray) (w : World) (hg : EnG e0 c) (hs : EnS e0) (hl : RowIn lgenc w e0.la e0.lg) (ht : Tab w) : Calls Tryz.prog 27 #[.slice none 0 0, (.agg #[.int .i64 (e0).id, .int .i64 (e0).bo, .int .i64 (e0).va, .int .i64 (e0).ki, .int .i64 (e0).au, .int .i64 (e0).pe, .string (e0).ke, .string (e0).tx, .slice (e0).la (e0).lg.length (e0).lk, .int .u64 (e0).ch])] w fun e w' => ∃ g la lk r, e = .returned (.tuple #[.slice (some ⟨g, 0, none⟩) 1 1, .int .i64 0]) ∧ RowIn enenc w' (some ⟨g, 0, none⟩) [e0.sld 1 la lk r] ∧ (RowIn lgenc w' la e0.lg ∧ ∀ ad, la = some ad → w.heap.size ≤ ad.block) ∧ w.heap.size ≤ g ∧ Below w.heap.size w w' := by
 have cw : Below w.heap.size w (w.alloc (.cells #[.int .i64 (e0).id, .int .i64 (e0).bo, .int .i64 (e0).va, .int .i64 (e0).ki, .int .i64 (e0).au, .int .i64 (e0).pe, .string (e0).ke, .string (e0).tx, .slice (e0).la (e0).lg.length (e0).lk, .int .u64 (e0).ch] 39)) := Bk.be
 have ke : Bk.Blk (w.alloc (.cells #[.int .i64 (e0).id, .int .i64 (e0).bo, .int .i64 (e0).va, .int .i64 (e0).ki, .int .i64 (e0).au, .int .i64 (e0).pe, .string (e0).ke, .string (e0).tx, .slice (e0).la (e0).lg.length (e0).lk, .int .u64 (e0).ch] 39)) w.heap.size _ 39 := Bk.Blk.nw10
 have HL := Lib.hid (fun (W : World) (hW : Below w.heap.size w W) => hl.later hW)
 have HT := Lib.hid (fun (W : World) (hW : Below w.heap.size w W) => ht.of hW)
 have HG := Lib.hid hg
 have HS := Lib.hid hs
 clear hg hs hl ht
 go_enter Tryz.func27, Tryz.ntmps27
 go_upto_region 1 with fail
 generalize (w.alloc (.cells _ 39)) = w1 at *
 go_wp2_with ((refine wpList_load_row rfl 39 _ rfl _ rfl _ _ _ _ (ke) Tryz.underlying39 rfl (by kernel_rfl) ?_))
 refine (echeck_ok e0 c w1 HG.out (HL.out _ cw)).mono ?_
 rintro e w2 ⟨rfl, hb⟩
 have c2 := bl2 hb cw
 replace ke := ke.later hb
 clear hb cw
 have l6 := ke.c6
 go_wp2_with fail
 refine (jfind_any none 0 [] e0.ke w2 (by simp) (fun h => absurd h (Nat.lt_irrefl _))).mono ?_
 rintro e w3 ⟨rfl, hb⟩
 have c3 := bl2 hb c2
 replace ke := ke.later hb
 rw [show fok (fun d : En => d.ke.toList == e0.ke.toList) [] = false from rfl]
 generalize fst' (fun d : En => d.ke.toList == e0.ke.toList) [] = zz at *
 clear hb c2 l6
 have z3 := Below.size c3
 have hk3 := ke.lt
 go_upto_region 5 with ((refine wpList_store_row rfl 39 _ _ rfl _ _ rfl rfl _ _ (Bk.Blk.nw10) (by kernel_rfl) rfl (by simp [Value.oneCell']) ?_))
 have c4 : Below w.heap.size w ((w3.alloc (.cells #[.int .i64 0, .int .i64 0, .int .i64 0, .int .i64 0, .int .i64 0, .int .i64 0, .string { data := #[] }, .string { data := #[] }, .slice none 0 0, .int .u64 0] 39)).setRow w3.heap.size #[.int .i64 (zz).id, .int .i64 (zz).bo, .int .i64 (zz).va, .int .i64 (zz).ki, .int .i64 (zz).au, .int .i64 (zz).pe, .string (zz).ke, .string (zz).tx, .slice (zz).la (zz).lg.length (zz).lk, .int .u64 (zz).ch]) := Below_setRow (c3.alloc z3 _) z3 _
 have ke4 : Bk.Blk ((w3.alloc (.cells #[.int .i64 0, .int .i64 0, .int .i64 0, .int .i64 0, .int .i64 0, .int .i64 0, .string { data := #[] }, .string { data := #[] }, .slice none 0 0, .int .u64 0] 39)).setRow w3.heap.size #[.int .i64 (zz).id, .int .i64 (zz).bo, .int .i64 (zz).va, .int .i64 (zz).ki, .int .i64 (zz).au, .int .i64 (zz).pe, .string (zz).ke, .string (zz).tx, .slice (zz).la (zz).lg.length (zz).lk, .int .u64 (zz).ch]) w.heap.size _ 39 := Blk_setRow_ne (Bk.Blk.alloc ke) (by omega)
 (try simp only [Act.put])
 generalize ((w3.alloc (.cells _ 39)).setRow w3.heap.size _) = w4 at *
 clear ke c3 z3 hk3
 go_wp2_with fail
 refine (last_any none 0 [] w4 (by simp) (fun h => absurd h (Nat.lt_irrefl _))).mono ?_
 rintro e w5 ⟨⟨ch, rfl⟩, hb⟩
 have c5 := bl2 hb c4
 replace ke4 := ke4.later hb
 rw [show lastD [] = -1 from rfl]
 clear hb c4
 have hmk : ∀ W : World, (Instr.makeSlice 29 (.int .i64 1) (.int .i64 1)).run Tryz.prog W = .ok (.slice (some ⟨W.heap.size, 0, none⟩) 1 1) (W.alloc (.cells #[.int .i64 0, .int .i64 0, .int .i64 0, .int .i64 0, .int .i64 0, .int .i64 0, .string { data := #[] }, .string { data := #[] }, .slice none 0 0, .int .u64 0] 39)) := fun _ => by kernel_rfl
 have hcp : ∀ (g : Nat) (W : World), (Builtin.copy_ #[29, 29] 3 #[.slice (some ⟨g, 0, none⟩) 1 1, .slice none 0 0]).run Tryz.prog W = .ok (.int .i64 0) W := fun _ _ => by kernel_rfl
 go_upto_region 14 with fail
 have z5 := Below.size c5
 have c6 : Below w.heap.size w (w5.alloc (.cells #[.int .i64 0, .int .i64 0, .int .i64 0, .int .i64 0, .int .i64 0, .int .i64 0, .string { data := #[] }, .string { data := #[] }, .slice none 0 0, .int .u64 0] 39)) := c5.alloc z5 _
 have ke6 : Bk.Blk (w5.alloc (.cells #[.int .i64 0, .int .i64 0, .int .i64 0, .int .i64 0, .int .i64 0, .int .i64 0, .string { data := #[] }, .string { data := #[] }, .slice none 0 0, .int .u64 0] 39)) w.heap.size #[.int .i64 (e0).id, .int .i64 (e0).bo, .int .i64 (e0).va, .int .i64 (e0).ki, .int .i64 (e0).au, .int .i64 (e0).pe, .string (e0).ke, .string (e0).tx, .slice (e0).la (e0).lg.length (e0).lk, .int .u64 (e0).ch] 39 := Bk.Blk.alloc ke4
 have ko6 : Bk.Blk (w5.alloc (.cells #[.int .i64 0, .int .i64 0, .int .i64 0, .int .i64 0, .int .i64 0, .int .i64 0, .string { data := #[] }, .string { data := #[] }, .slice none 0 0, .int .u64 0] 39)) w5.heap.size _ 39 := Bk.Blk.nw10
 generalize w5.alloc (.cells _ 39) = w6 at *
 generalize w5.heap.size = g6 at *
 clear c5 ke4 hmk hcp
 go_wp2_with ((refine wpList_load_row rfl 39 _ rfl _ rfl _ _ _ _ (ke6) Tryz.underlying39 rfl (by kernel_rfl) ?_))
 refine (sealed_any e0 0 ch w6 HS.out (by omega) (HL.out _ c6) (HT.out _ c6)).mono ?_
 rintro e w7 ⟨la, lk, r, rfl, hrow, hnew, hb⟩
 have c7 := bl2 hb c6
 have ko7 := ko6.later hb
 have hlt := ko6.lt
 have HR := Lib.hid (And.intro hrow hnew)
 clear hb c6 ke6 ko6 hrow hnew
 go_wp2_with ((refine wpList_store_row rfl 39 _ _ rfl _ _ rfl rfl _ _ (ko7) (by kernel_rfl) rfl (by simp [Value.oneCell']) ?_))
 go_ret2
 exact ⟨g6, la, lk, r, rfl, row1 (enc := enenc) (Blk_setRow_same ko7), ⟨Ln.row_row HR.out.1 (fun ad had => by have := HR.out.2 ad had; omega), fun ad had => by have := HR.out.2 ad had; omega⟩, z5, Below_setRow c7 z5 _⟩
end Go.Proofs.YtjhpiclnpmdjnaaGreatDoor.Bm
namespace Go.Proofs.YtjhpiclnpmdjnaaGreatDoor.Bm
open Go Go.RowKit
open Go.Proofs.YtjhpiclnpmdjnaaGreatDoor
open Go.Proofs.YtjhpiclnpmdjnaaGreatDoor.Kl (upto upto_yes upto_no upto_iff byt byt_get upB codeB)
set_option linter.unusedSimpArgs false
set_option linter.unusedVariables false
def knownB (js : List En) (s : ByteArray) : Bool := fok (fun d : En => d.ke.toList == s.toList) js
def jE (js : List En) (e : En) : Int := if knownB js e.ke = true then 12 else if 0 < js.length ∧ e.bo < lastD js then 10 else if 4096 ≤ js.length then 5 else 0
def poE (ck : En → Int) (B : Bo) (e : En) : Int := if ck e ≠ 0 then ck e else if knownB B.js e.ke = true then 12 else if lgsE B e.bo e.lg ≠ 0 then lgsE B e.bo e.lg else jE B.js e
def Stat (B B' : Bo) : Prop := B'.us = B.us ∧ B'.gs = B.gs ∧ B'.ps = B.ps ∧ B'.as = B.as
theorem Stat.refl (B : Bo) : Stat B B := ⟨rfl, rfl, rfl, rfl⟩
theorem Stat.trans {A B C : Bo} (h : Stat A B) (k : Stat B C) : Stat A C := ⟨k.1.trans h.1, k.2.1.trans h.2.1, k.2.2.1.trans h.2.2.1, k.2.2.2.trans h.2.2.2⟩
theorem legE_stat {B B' : Bo} (h : Stat B B') (x : Lg) (bo : Int) : legE B' x bo = legE B x bo := by
 obtain ⟨h1, h2, h3, h4⟩ := h
 unfold legE ledE cusE gO kidB uO curO curS actB aO aF
 rw [h1, h2, h3, h4]
theorem lgsE_stat {B B' : Bo} (h : Stat B B') (bo : Int) : ∀ l : List Lg, lgsE B' bo l = lgsE B bo l
 | [] => rfl
 | x :: t => by
  unfold lgsE
  rw [legE_stat h x bo, lgsE_stat h bo t]
structure Ext (js js' : List En) : Prop where
 key : ∀ s, knownB js s = true → knownB js' s = true
 len : js.length ≤ js'.length
 day : 0 < js.length → lastD js ≤ lastD js'
theorem Ext.refl (js : List En) : Ext js js := ⟨fun _ h => h, Nat.le_refl _, fun _ => Int.le_refl _⟩
theorem Ext.trans {a b c : List En} (h : Ext a b) (k : Ext b c) : Ext a c := ⟨fun s hs => k.key s (h.key s hs), Nat.le_trans h.len k.len, fun h0 => Int.le_trans (h.day h0) (k.day (Nat.lt_of_lt_of_le h0 h.len))⟩
theorem lastD_app (js : List En) (e : En) : lastD (js ++ [e]) = e.bo := by
 unfold lastD
 rw [if_neg (by simp)]
 have h : (js ++ [e]).length - 1 = js.length := by simp
 rw [h, getElem!_pos (js ++ [e]) js.length (by simp)]
 simp
theorem known_app (js : List En) (e : En) (s : ByteArray) : knownB (js ++ [e]) s = (knownB js s || (e.ke.toList == s.toList)) := by
 unfold knownB fok
 rw [List.find?_append]
 cases List.find? (fun d : En => d.ke.toList == s.toList) js with
 | some x => simp
 | none =>
  simp only [Option.none_or, Option.isSome_none, Bool.false_or]
  unfold List.find?
  cases e.ke.toList == s.toList <;> rfl
theorem ext_post {js : List En} {e e' : En} (hb : e'.bo = e.bo) (h : jE js e = 0) : Ext js (js ++ [e']) := by
 refine ⟨fun s hs => by rw [known_app, hs]; rfl, by simp, fun h0 => ?_⟩
 rw [lastD_app, hb]
 unfold jE at h
 split at h
 ·cases h
 ·split at h
  ·cases h
  ·rename_i hn
   have : ¬ e.bo < lastD js := fun hlt => hn ⟨h0, hlt⟩
   omega
theorem dead_later {ck : En → Int} {B B' : Bo} (hs : Stat B B') (hx : Ext B.js B'.js) {e : En} (h : poE ck B e ≠ 0) : poE ck B' e ≠ 0 := by
 unfold poE at h ⊢
 rw [lgsE_stat hs]
 by_cases h1 : ck e ≠ 0
 ·rw [if_pos h1]
  exact h1
 ·rw [if_neg h1] at h ⊢
  by_cases h2 : knownB B.js e.ke = true
  ·rw [if_pos (hx.key _ h2)]
   decide
  ·rw [if_neg h2] at h
   by_cases h2' : knownB B'.js e.ke = true
   ·rw [if_pos h2']
    decide
   ·rw [if_neg h2']
    by_cases h3 : lgsE B e.bo e.lg ≠ 0
    ·rw [if_pos h3]
     exact h3
    ·rw [if_neg h3] at h ⊢
     unfold jE at h ⊢
     rw [if_neg h2] at h
     rw [if_neg h2']
     by_cases h4 : 0 < B.js.length ∧ e.bo < lastD B.js
     ·rw [if_pos ⟨Nat.lt_of_lt_of_le h4.1 hx.len, Int.lt_of_lt_of_le h4.2 (hx.day h4.1)⟩]
      decide
     ·rw [if_neg h4] at h
      by_cases h5 : 4096 ≤ B.js.length
      ·by_cases h6 : 0 < B'.js.length ∧ e.bo < lastD B'.js
       ·rw [if_pos h6]
        decide
       ·rw [if_neg h6, if_pos (Nat.le_trans h5 hx.len)]
        decide
      ·rw [if_neg h5] at h
       exact absurd rfl h
theorem dead_posted {ck : En → Int} {B' : Bo} {js : List En} {e e' : En} (hk : e'.ke = e.ke) (hj : B'.js = js ++ [e']) : poE ck B' e ≠ 0 := by
 unfold poE
 by_cases h1 : ck e ≠ 0
 ·rw [if_pos h1]
  exact h1
 ·rw [if_neg h1, if_pos (by rw [hj, known_app, hk]; simp)]
  decide
theorem poE_0 {ck : En → Int} {B : Bo} {e : En} (h : poE ck B e = 0) : ck e = 0 ∧ knownB B.js e.ke = false ∧ lgsE B e.bo e.lg = 0 ∧ jE B.js e = 0 := by
 unfold poE at h
 by_cases h1 : ck e ≠ 0
 ·rw [if_pos h1] at h
  exact absurd h h1
 ·rw [if_neg h1] at h
  by_cases h2 : knownB B.js e.ke = true
  ·rw [if_pos h2] at h
   cases h
  ·rw [if_neg h2] at h
   by_cases h3 : lgsE B e.bo e.lg ≠ 0
   ·rw [if_pos h3] at h
    exact absurd h h3
   ·rw [if_neg h3] at h
    exact ⟨Classical.byContradiction h1, by simpa using h2, Classical.byContradiction h3, h⟩
end Go.Proofs.YtjhpiclnpmdjnaaGreatDoor.Bm
