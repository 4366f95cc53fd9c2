/-
  Parts of the proof: B26.
-/
import Derived.Test.YtlolflephnbbcaaGreatDoorQ37
namespace Go.Proofs.YtlolflephnbbcaaGreatDoor.Ln
open Go Go.RowKit
open Go.Proofs.YtlolflephnbbcaaGreatDoor
set_option linter.unusedSimpArgs false
set_option linter.unusedVariables false
set_option maxRecDepth 100000
def ls39 : Lo := ⟨1, 1000, 3, 0, 0, 0, 0, 30, 0, 700, 0, ⟨2, 700, 0, 30, 1, 1, 0, 1, 0, 0, { data := #[104, 111, 109, 101] }, { data := #[69, 85, 82] }⟩, [⟨1, 59, 700, 0⟩], []⟩
def rv39 : Lo := ⟨1, 1000, 3, 0, 0, 0, 0, 30, 0, 700, 700, ⟨2, 700, 0, 30, 1, 1, 0, 1, 0, 0, { data := #[104, 111, 109, 101] }, { data := #[69, 85, 82] }⟩, [⟨1, 59, 700, 0⟩], []⟩
theorem o39 : wrO sm39 = ls39 := by kernel_rfl
theorem n39 : wrN sm39 = 385 := by kernel_rfl
theorem b150 : bkt (daysL sm39 150) = 4 := by kernel_rfl
theorem b149 : bkt (daysL sm39 149) = 3 := by kernel_rfl
def WP39 (L : Lo) (c : Option Addr → Nat → Option Addr → Nat → Array Value) (N E : Int) (v : Value) (W : World) : Prop := ∃ da dk ca ck, v = .tuple #[.agg (c da dk ca ck), .int .i64 N, .int .i64 E] ∧ LoInA W L da ca
theorem w39_150 (g : Nat) (w : World) (h : LoInA w sm39 (some ⟨g, 0, none⟩) none) (hC : Ctb w) : Calls Tryz.prog 8 #[.agg #[.int .i64 1, .int .i64 1000, .int .i64 1, .int .i64 0, .int .i64 0, .int .i64 0, .int .i64 4, .int .i64 30, .int .i64 315, .int .i64 0, .int .i64 0, .int .i64 2, .int .i64 700, .int .i64 0, .int .i64 30, .int .i64 1, .int .i64 1, .int .i64 0, .int .i64 1, .int .i64 0, .int .i64 0, .string { data := #[104, 111, 109, 101] }, .string { data := #[69, 85, 82] }, .slice (some ⟨g, 0, none⟩) 1 1, .slice none 0 0], .int .i64 150] w fun e w' => ∃ da1 dk1 ca1 ck1, e = .returned (.tuple #[.agg #[.int .i64 1, .int .i64 1000, .int .i64 3, .int .i64 0, .int .i64 0, .int .i64 0, .int .i64 0, .int .i64 30, .int .i64 0, .int .i64 700, .int .i64 0, .int .i64 2, .int .i64 700, .int .i64 0, .int .i64 30, .int .i64 1, .int .i64 1, .int .i64 0, .int .i64 1, .int .i64 0, .int .i64 0, .string { data := #[104, 111, 109, 101] }, .string { data := #[69, 85, 82] }, .slice da1 1 dk1, .slice ca1 0 ck1], .int .i64 385, .int .i64 0]) ∧ LoInA w' ls39 da1 ca1 ∧ Below w.heap.size w w' := by
 have hc := write_ok sm39 (some ⟨g, 0, none⟩) none 1 0 150 w h (by decide) (by decide) hC rfl b150
 rw [o39, n39] at hc
 exact hc
def Z39 (E : Int) (w : World) (e : Ending) (w' : World) : Prop := ∃ da2 dk2 ca2 ck2, e = .returned (.tuple #[(.agg #[.int .i64 (zLo).id, .int .i64 (zLo).ac, .int .i64 (zLo).st, .int .i64 (zLo).pp, .int .i64 (zLo).pi, .int .i64 (zLo).fee, .int .i64 (zLo).pen, .int .i64 (zLo).chg, .int .i64 (zLo).prov, .int .i64 (zLo).loss, .int .i64 (zLo).rcv, .int .i64 ((zLo).tm).me, .int .i64 ((zLo).tm).pr, .int .i64 ((zLo).tm).ppm, .int .i64 ((zLo).tm).stt, .int .i64 ((zLo).tm).ev, .int .i64 ((zLo).tm).ct, .int .i64 ((zLo).tm).ba, .int .i64 ((zLo).tm).mo, .int .i64 ((zLo).tm).pen, .int .i64 ((zLo).tm).fe, .string ((zLo).tm).cal, .string ((zLo).tm).cur, .slice da2 (zLo).ds.length dk2, .slice ca2 (zLo).cs.length ck2]), .int .i64 0, .int .i64 E]) ∧ Below w.heap.size w w'
theorem w39_149 (g : Nat) (w : World) (h : LoInA w sm39 (some ⟨g, 0, none⟩) none) (hC : Ctb w) : Calls Tryz.prog 8 #[.agg #[.int .i64 1, .int .i64 1000, .int .i64 1, .int .i64 0, .int .i64 0, .int .i64 0, .int .i64 4, .int .i64 30, .int .i64 315, .int .i64 0, .int .i64 0, .int .i64 2, .int .i64 700, .int .i64 0, .int .i64 30, .int .i64 1, .int .i64 1, .int .i64 0, .int .i64 1, .int .i64 0, .int .i64 0, .string { data := #[104, 111, 109, 101] }, .string { data := #[69, 85, 82] }, .slice (some ⟨g, 0, none⟩) 1 1, .slice none 0 0], .int .i64 149] w (Z39 17 w) :=
 (write_no sm39 (some ⟨g, 0, none⟩) none 1 0 149 w h (by decide) (by decide) hC (fun hh => by have := hh.2; rw [b149] at this; cases this)).mono fun e w' ⟨da, dk, ca, ck, he, _, hb⟩ => ⟨da, dk, ca, ck, he, hb⟩
theorem r39_700 (da1 ca1 : Option Addr) (dk1 ck1 : Nat) (w : World) (h : LoInA w ls39 da1 ca1) : Calls Tryz.prog 43 #[.agg #[.int .i64 1, .int .i64 1000, .int .i64 3, .int .i64 0, .int .i64 0, .int .i64 0, .int .i64 0, .int .i64 30, .int .i64 0, .int .i64 700, .int .i64 0, .int .i64 2, .int .i64 700, .int .i64 0, .int .i64 30, .int .i64 1, .int .i64 1, .int .i64 0, .int .i64 1, .int .i64 0, .int .i64 0, .string { data := #[104, 111, 109, 101] }, .string { data := #[69, 85, 82] }, .slice da1 1 dk1, .slice ca1 0 ck1], .int .i64 700, .int .i64 200] w fun e w' => ∃ da3 dk3 ca3 ck3, e = .returned (.tuple #[.agg #[.int .i64 1, .int .i64 1000, .int .i64 3, .int .i64 0, .int .i64 0, .int .i64 0, .int .i64 0, .int .i64 30, .int .i64 0, .int .i64 700, .int .i64 700, .int .i64 2, .int .i64 700, .int .i64 0, .int .i64 30, .int .i64 1, .int .i64 1, .int .i64 0, .int .i64 1, .int .i64 0, .int .i64 0, .string { data := #[104, 111, 109, 101] }, .string { data := #[69, 85, 82] }, .slice da3 1 dk3, .slice ca3 0 ck3], .int .i64 700, .int .i64 0]) ∧ LoInA w' rv39 da3 ca3 ∧ Below w.heap.size w w' :=
 rec_ok ls39 da1 ca1 dk1 ck1 700 200 w h (by decide) (by decide) rfl (by decide) (by decide) (by decide) (by decide)
theorem r39_701 (da1 ca1 : Option Addr) (dk1 ck1 : Nat) (w : World) (h : LoInA w ls39 da1 ca1) : Calls Tryz.prog 43 #[.agg #[.int .i64 1, .int .i64 1000, .int .i64 3, .int .i64 0, .int .i64 0, .int .i64 0, .int .i64 0, .int .i64 30, .int .i64 0, .int .i64 700, .int .i64 0, .int .i64 2, .int .i64 700, .int .i64 0, .int .i64 30, .int .i64 1, .int .i64 1, .int .i64 0, .int .i64 1, .int .i64 0, .int .i64 0, .string { data := #[104, 111, 109, 101] }, .string { data := #[69, 85, 82] }, .slice da1 1 dk1, .slice ca1 0 ck1], .int .i64 701, .int .i64 200] w (Z39 18 w) :=
 (rec_no ls39 da1 ca1 dk1 ck1 701 200 w h (by decide) (by decide) rfl (by decide) (by decide) (by decide) (by decide)).mono fun e w' ⟨da, dk, ca, ck, he, _, hb⟩ => ⟨da, dk, ca, ck, he, hb⟩
theorem e39 (x1 x2 x3 : LoS) (h1 : x1.l = sm39) (h2 : x2.l = rv39) (h3 : x3.l = ls39) : exG [x1, x2, x3] 0 = 1400 := by
 unfold exG exG exG exG
 rw [h1, h2, h3]
 kernel_rfl
theorem expo39 (q : Nat) (da1 ca1 da3 ca3 : Option Addr) (dk1 ck1 dk3 ck3 : Nat) (W : World) (h0 : LoInA W sm39 (some ⟨q, 0, none⟩) none) (h3 : LoInA W rv39 da3 ca3) (h1 : LoInA W ls39 da1 ca1) (cs : Array Value) (hcs : cs = #[.int .i64 1, .int .i64 1000, .int .i64 1, .int .i64 0, .int .i64 0, .int .i64 0, .int .i64 4, .int .i64 30, .int .i64 315, .int .i64 0, .int .i64 0, .int .i64 2, .int .i64 700, .int .i64 0, .int .i64 30, .int .i64 1, .int .i64 1, .int .i64 0, .int .i64 1, .int .i64 0, .int .i64 0, .string { data := #[104, 111, 109, 101] }, .string { data := #[69, 85, 82] }, .slice (some ⟨q, 0, none⟩) 1 1, .slice none 0 0, .int .i64 1, .int .i64 1000, .int .i64 3, .int .i64 0, .int .i64 0, .int .i64 0, .int .i64 0, .int .i64 30, .int .i64 0, .int .i64 700, .int .i64 700, .int .i64 2, .int .i64 700, .int .i64 0, .int .i64 30, .int .i64 1, .int .i64 1, .int .i64 0, .int .i64 1, .int .i64 0, .int .i64 0, .string { data := #[104, 111, 109, 101] }, .string { data := #[69, 85, 82] }, .slice da3 1 dk3, .slice ca3 0 ck3, .int .i64 1, .int .i64 1000, .int .i64 3, .int .i64 0, .int .i64 0, .int .i64 0, .int .i64 0, .int .i64 30, .int .i64 0, .int .i64 700, .int .i64 0, .int .i64 2, .int .i64 700, .int .i64 0, .int .i64 30, .int .i64 1, .int .i64 1, .int .i64 0, .int .i64 1, .int .i64 0, .int .i64 0, .string { data := #[104, 111, 109, 101] }, .string { data := #[69, 85, 82] }, .slice da1 1 dk1, .slice ca1 0 ck1]) :
  Calls Tryz.prog 44 #[.slice (some ⟨W.heap.size, 0, none⟩) 3 3] (W.alloc (.cells cs 32)) fun e w' => e = .returned (.int .i64 1400) ∧ Below (W.alloc (.cells cs 32)).heap.size (W.alloc (.cells cs 32)) w' := by
 have hb : Below W.heap.size W (W.alloc (.cells cs 32)) := (Below.refl _ _).alloc (Nat.le_refl _) _
 have k : Bk.Blk (W.alloc (.cells cs 32)) W.heap.size cs 32 := Bk.Blk.nw10
 rw [hcs] at k hb ⊢
 have hL : LosIn (W.alloc (.cells #[.int .i64 1, .int .i64 1000, .int .i64 1, .int .i64 0, .int .i64 0, .int .i64 0, .int .i64 4, .int .i64 30, .int .i64 315, .int .i64 0, .int .i64 0, .int .i64 2, .int .i64 700, .int .i64 0, .int .i64 30, .int .i64 1, .int .i64 1, .int .i64 0, .int .i64 1, .int .i64 0, .int .i64 0, .string { data := #[104, 111, 109, 101] }, .string { data := #[69, 85, 82] }, .slice (some ⟨q, 0, none⟩) 1 1, .slice none 0 0, .int .i64 1, .int .i64 1000, .int .i64 3, .int .i64 0, .int .i64 0, .int .i64 0, .int .i64 0, .int .i64 30, .int .i64 0, .int .i64 700, .int .i64 700, .int .i64 2, .int .i64 700, .int .i64 0, .int .i64 30, .int .i64 1, .int .i64 1, .int .i64 0, .int .i64 1, .int .i64 0, .int .i64 0, .string { data := #[104, 111, 109, 101] }, .string { data := #[69, 85, 82] }, .slice da3 1 dk3, .slice ca3 0 ck3, .int .i64 1, .int .i64 1000, .int .i64 3, .int .i64 0, .int .i64 0, .int .i64 0, .int .i64 0, .int .i64 30, .int .i64 0, .int .i64 700, .int .i64 0, .int .i64 2, .int .i64 700, .int .i64 0, .int .i64 30, .int .i64 1, .int .i64 1, .int .i64 0, .int .i64 1, .int .i64 0, .int .i64 0, .string { data := #[104, 111, 109, 101] }, .string { data := #[69, 85, 82] }, .slice da1 1 dk1, .slice ca1 0 ck1] 32)) (some ⟨W.heap.size, 0, none⟩) [⟨sm39, some ⟨q, 0, none⟩, none, 1, 0⟩, ⟨rv39, da3, ca3, dk3, ck3⟩, ⟨ls39, da1, ca1, dk1, ck1⟩] := by
  refine ⟨row_of_blk' k, fun x hx => ?_, fun x hx => ?_⟩
  ·simp only [List.mem_cons, List.not_mem_nil, or_false] at hx
   rcases hx with rfl | rfl | rfl
   ·exact ⟨(h0.later hb).d, (h0.later hb).c⟩
   ·exact ⟨(h3.later hb).d, (h3.later hb).c⟩
   ·exact ⟨(h1.later hb).d, (h1.later hb).c⟩
  ·simp only [List.mem_cons, List.not_mem_nil, or_false] at hx
   rcases hx with rfl | rfl | rfl <;> (show (1 : Nat) ≤ 2305843009213693951; omega)
 have hc := expo_any _ 3 _ _ hL (by simp)
 rw [e39 _ _ _ rfl rfl rfl] at hc
 exact hc
set_option maxHeartbeats 32000000 in
theorem lives39_any (w : World) (hC : Ctb w) : Calls Tryz.prog 13 #[] w fun e w' => e = .returned (.bool true) ∧ Below w.heap.size w w' := by
 have cw : Below w.heap.size w w := Below.refl _ _
 have HCC := Lib.hid (fun (W : World) (hW : Below w.heap.size w W) => hC.of hW)
 clear hC
 go_enter Tryz.func13, Tryz.ntmps13
 go_wp2_with fail
 refine (sample39_any _).mono ?_
 rintro e w1 ⟨_, rfl, ⟨q1, rfl, h1⟩, hb⟩
 have cw1 := bl2 hb cw
 clear hb cw
 go_wp2_with fail
 refine (w39_150 q1 _ h1 (HCC.out _ cw1)).mono ?_
 rintro e w2 ⟨da1, dk1, ca1, ck1, rfl, hL, hb⟩
 replace h1 := h1.later hb
 have cw2 := bl2 hb cw1
 clear hb cw1
 clear h1
 go_upto_region 2 with (refine wpList_store_row rfl 32 _ _ rfl _ _ rfl rfl _ _ Bk.Blk.nw10 (by kernel_rfl) rfl (by simp [Value.oneCell']) ?_)
 have hbs : Below w2.heap.size w2 ((w2.alloc (.cells #[.int .i64 0, .int .i64 0, .int .i64 0, .int .i64 0, .int .i64 0, .int .i64 0, .int .i64 0, .int .i64 0, .int .i64 0, .int .i64 0, .int .i64 0, .int .i64 0, .int .i64 0, .int .i64 0, .int .i64 0, .int .i64 0, .int .i64 0, .int .i64 0, .int .i64 0, .int .i64 0, .int .i64 0, .string { data := #[] }, .string { data := #[] }, .slice none 0 0, .slice none 0 0] 32)).setRow w2.heap.size #[.int .i64 1, .int .i64 1000, .int .i64 3, .int .i64 0, .int .i64 0, .int .i64 0, .int .i64 0, .int .i64 30, .int .i64 0, .int .i64 700, .int .i64 0, .int .i64 2, .int .i64 700, .int .i64 0, .int .i64 30, .int .i64 1, .int .i64 1, .int .i64 0, .int .i64 1, .int .i64 0, .int .i64 0, .string { data := #[104, 111, 109, 101] }, .string { data := #[69, 85, 82] }, .slice da1 1 dk1, .slice ca1 0 ck1]) := Below_setRow ((Below.refl _ _).alloc (Nat.le_refl _) _) (Nat.le_refl _) _
 have k1 : Bk.Blk ((w2.alloc (.cells #[.int .i64 0, .int .i64 0, .int .i64 0, .int .i64 0, .int .i64 0, .int .i64 0, .int .i64 0, .int .i64 0, .int .i64 0, .int .i64 0, .int .i64 0, .int .i64 0, .int .i64 0, .int .i64 0, .int .i64 0, .int .i64 0, .int .i64 0, .int .i64 0, .int .i64 0, .int .i64 0, .int .i64 0, .string { data := #[] }, .string { data := #[] }, .slice none 0 0, .slice none 0 0] 32)).setRow w2.heap.size #[.int .i64 1, .int .i64 1000, .int .i64 3, .int .i64 0, .int .i64 0, .int .i64 0, .int .i64 0, .int .i64 30, .int .i64 0, .int .i64 700, .int .i64 0, .int .i64 2, .int .i64 700, .int .i64 0, .int .i64 30, .int .i64 1, .int .i64 1, .int .i64 0, .int .i64 1, .int .i64 0, .int .i64 0, .string { data := #[104, 111, 109, 101] }, .string { data := #[69, 85, 82] }, .slice da1 1 dk1, .slice ca1 0 ck1]) w2.heap.size _ 32 := Blk_setRow_same Bk.Blk.nw10
 replace hL := hL.later hbs
 have cw3 := bl2 hbs cw2
 clear cw2 hbs
 generalize ((w2.alloc (.cells _ 32)).setRow w2.heap.size _) = w3 at *
 generalize w2.heap.size = g1 at *
 go_wp2_with fail
 refine (sample39_any _).mono ?_
 rintro e w4 ⟨_, rfl, ⟨q2, rfl, h2⟩, hb⟩
 replace hL := hL.later hb
 replace k1 := k1.later hb
 have cw4 := bl2 hb cw3
 clear hb cw3
 go_wp2_with fail
 refine (w39_149 q2 _ h2 (HCC.out _ cw4)).mono ?_
 rintro e w5 ⟨da2, dk2, ca2, ck2, rfl, hb⟩
 replace hL := hL.later hb
 replace k1 := k1.later hb
 replace h2 := h2.later hb
 have cw5 := bl2 hb cw4
 clear hb cw4
 clear h2
 go_upto_region 3 with (refine wpList_store_row rfl 32 _ _ rfl _ _ rfl rfl _ _ Bk.Blk.nw10 (by kernel_rfl) rfl (by simp [Value.oneCell']) ?_)
 have hbs : Below w5.heap.size w5 ((w5.alloc (.cells #[.int .i64 0, .int .i64 0, .int .i64 0, .int .i64 0, .int .i64 0, .int .i64 0, .int .i64 0, .int .i64 0, .int .i64 0, .int .i64 0, .int .i64 0, .int .i64 0, .int .i64 0, .int .i64 0, .int .i64 0, .int .i64 0, .int .i64 0, .int .i64 0, .int .i64 0, .int .i64 0, .int .i64 0, .string { data := #[] }, .string { data := #[] }, .slice none 0 0, .slice none 0 0] 32)).setRow w5.heap.size #[.int .i64 (zLo).id, .int .i64 (zLo).ac, .int .i64 (zLo).st, .int .i64 (zLo).pp, .int .i64 (zLo).pi, .int .i64 (zLo).fee, .int .i64 (zLo).pen, .int .i64 (zLo).chg, .int .i64 (zLo).prov, .int .i64 (zLo).loss, .int .i64 (zLo).rcv, .int .i64 ((zLo).tm).me, .int .i64 ((zLo).tm).pr, .int .i64 ((zLo).tm).ppm, .int .i64 ((zLo).tm).stt, .int .i64 ((zLo).tm).ev, .int .i64 ((zLo).tm).ct, .int .i64 ((zLo).tm).ba, .int .i64 ((zLo).tm).mo, .int .i64 ((zLo).tm).pen, .int .i64 ((zLo).tm).fe, .string ((zLo).tm).cal, .string ((zLo).tm).cur, .slice da2 (zLo).ds.length dk2, .slice ca2 (zLo).cs.length ck2]) := Below_setRow ((Below.refl _ _).alloc (Nat.le_refl _) _) (Nat.le_refl _) _
 have k2 : Bk.Blk ((w5.alloc (.cells #[.int .i64 0, .int .i64 0, .int .i64 0, .int .i64 0, .int .i64 0, .int .i64 0, .int .i64 0, .int .i64 0, .int .i64 0, .int .i64 0, .int .i64 0, .int .i64 0, .int .i64 0, .int .i64 0, .int .i64 0, .int .i64 0, .int .i64 0, .int .i64 0, .int .i64 0, .int .i64 0, .int .i64 0, .string { data := #[] }, .string { data := #[] }, .slice none 0 0, .slice none 0 0] 32)).setRow w5.heap.size #[.int .i64 (zLo).id, .int .i64 (zLo).ac, .int .i64 (zLo).st, .int .i64 (zLo).pp, .int .i64 (zLo).pi, .int .i64 (zLo).fee, .int .i64 (zLo).pen, .int .i64 (zLo).chg, .int .i64 (zLo).prov, .int .i64 (zLo).loss, .int .i64 (zLo).rcv, .int .i64 ((zLo).tm).me, .int .i64 ((zLo).tm).pr, .int .i64 ((zLo).tm).ppm, .int .i64 ((zLo).tm).stt, .int .i64 ((zLo).tm).ev, .int .i64 ((zLo).tm).ct, .int .i64 ((zLo).tm).ba, .int .i64 ((zLo).tm).mo, .int .i64 ((zLo).tm).pen, .int .i64 ((zLo).tm).fe, .string ((zLo).tm).cal, .string ((zLo).tm).cur, .slice da2 (zLo).ds.length dk2, .slice ca2 (zLo).cs.length ck2]) w5.heap.size _ 32 := Blk_setRow_same Bk.Blk.nw10
 replace hL := hL.later hbs
 replace k1 := k1.later hbs
 have cw6 := bl2 hbs cw5
 clear cw5 hbs
 generalize ((w5.alloc (.cells _ 32)).setRow w5.heap.size _) = w6 at *
 generalize w5.heap.size = g2 at *
 clear k2
 go_wp2_with (refine wpList_load_row rfl 32 _ rfl _ rfl _ _ _ _ (k1) Tryz.underlying32 rfl (by kernel_rfl) ?_)
 refine (r39_700 da1 ca1 dk1 ck1 _ hL).mono ?_
 rintro e w7 ⟨da3, dk3, ca3, ck3, rfl, hM, hb⟩
 replace hL := hL.later hb
 replace k1 := k1.later hb
 have cw7 := bl2 hb cw6
 clear hb cw6
 go_upto_region 4 with (refine wpList_store_row rfl 32 _ _ rfl _ _ rfl rfl _ _ Bk.Blk.nw10 (by kernel_rfl) rfl (by simp [Value.oneCell']) ?_)
 have hbs : Below w7.heap.size w7 ((w7.alloc (.cells #[.int .i64 0, .int .i64 0, .int .i64 0, .int .i64 0, .int .i64 0, .int .i64 0, .int .i64 0, .int .i64 0, .int .i64 0, .int .i64 0, .int .i64 0, .int .i64 0, .int .i64 0, .int .i64 0, .int .i64 0, .int .i64 0, .int .i64 0, .int .i64 0, .int .i64 0, .int .i64 0, .int .i64 0, .string { data := #[] }, .string { data := #[] }, .slice none 0 0, .slice none 0 0] 32)).setRow w7.heap.size #[.int .i64 1, .int .i64 1000, .int .i64 3, .int .i64 0, .int .i64 0, .int .i64 0, .int .i64 0, .int .i64 30, .int .i64 0, .int .i64 700, .int .i64 700, .int .i64 2, .int .i64 700, .int .i64 0, .int .i64 30, .int .i64 1, .int .i64 1, .int .i64 0, .int .i64 1, .int .i64 0, .int .i64 0, .string { data := #[104, 111, 109, 101] }, .string { data := #[69, 85, 82] }, .slice da3 1 dk3, .slice ca3 0 ck3]) := Below_setRow ((Below.refl _ _).alloc (Nat.le_refl _) _) (Nat.le_refl _) _
 have k3 : Bk.Blk ((w7.alloc (.cells #[.int .i64 0, .int .i64 0, .int .i64 0, .int .i64 0, .int .i64 0, .int .i64 0, .int .i64 0, .int .i64 0, .int .i64 0, .int .i64 0, .int .i64 0, .int .i64 0, .int .i64 0, .int .i64 0, .int .i64 0, .int .i64 0, .int .i64 0, .int .i64 0, .int .i64 0, .int .i64 0, .int .i64 0, .string { data := #[] }, .string { data := #[] }, .slice none 0 0, .slice none 0 0] 32)).setRow w7.heap.size #[.int .i64 1, .int .i64 1000, .int .i64 3, .int .i64 0, .int .i64 0, .int .i64 0, .int .i64 0, .int .i64 30, .int .i64 0, .int .i64 700, .int .i64 700, .int .i64 2, .int .i64 700, .int .i64 0, .int .i64 30, .int .i64 1, .int .i64 1, .int .i64 0, .int .i64 1, .int .i64 0, .int .i64 0, .string { data := #[104, 111, 109, 101] }, .string { data := #[69, 85, 82] }, .slice da3 1 dk3, .slice ca3 0 ck3]) w7.heap.size _ 32 := Blk_setRow_same Bk.Blk.nw10
 replace hL := hL.later hbs
 replace k1 := k1.later hbs
 replace hM := hM.later hbs
 have cw8 := bl2 hbs cw7
 clear cw7 hbs
 generalize ((w7.alloc (.cells _ 32)).setRow w7.heap.size _) = w8 at *
 generalize w7.heap.size = g3 at *
 go_wp2_with (refine wpList_load_row rfl 32 _ rfl _ rfl _ _ _ _ (k1) Tryz.underlying32 rfl (by kernel_rfl) ?_)
 refine (r39_701 da1 ca1 dk1 ck1 _ hL).mono ?_
 rintro e w9 ⟨da4, dk4, ca4, ck4, rfl, hb⟩
 replace hL := hL.later hb
 replace k1 := k1.later hb
 replace hM := hM.later hb
 replace k3 := k3.later hb
 have cw9 := bl2 hb cw8
 clear hb cw8
 go_upto_region 5 with (refine wpList_store_row rfl 32 _ _ rfl _ _ rfl rfl _ _ Bk.Blk.nw10 (by kernel_rfl) rfl (by simp [Value.oneCell']) ?_)
 have hbs : Below w9.heap.size w9 ((w9.alloc (.cells #[.int .i64 0, .int .i64 0, .int .i64 0, .int .i64 0, .int .i64 0, .int .i64 0, .int .i64 0, .int .i64 0, .int .i64 0, .int .i64 0, .int .i64 0, .int .i64 0, .int .i64 0, .int .i64 0, .int .i64 0, .int .i64 0, .int .i64 0, .int .i64 0, .int .i64 0, .int .i64 0, .int .i64 0, .string { data := #[] }, .string { data := #[] }, .slice none 0 0, .slice none 0 0] 32)).setRow w9.heap.size #[.int .i64 (zLo).id, .int .i64 (zLo).ac, .int .i64 (zLo).st, .int .i64 (zLo).pp, .int .i64 (zLo).pi, .int .i64 (zLo).fee, .int .i64 (zLo).pen, .int .i64 (zLo).chg, .int .i64 (zLo).prov, .int .i64 (zLo).loss, .int .i64 (zLo).rcv, .int .i64 ((zLo).tm).me, .int .i64 ((zLo).tm).pr, .int .i64 ((zLo).tm).ppm, .int .i64 ((zLo).tm).stt, .int .i64 ((zLo).tm).ev, .int .i64 ((zLo).tm).ct, .int .i64 ((zLo).tm).ba, .int .i64 ((zLo).tm).mo, .int .i64 ((zLo).tm).pen, .int .i64 ((zLo).tm).fe, .string ((zLo).tm).cal, .string ((zLo).tm).cur, .slice da4 (zLo).ds.length dk4, .slice ca4 (zLo).cs.length ck4]) := Below_setRow ((Below.refl _ _).alloc (Nat.le_refl _) _) (Nat.le_refl _) _
 have k4 : Bk.Blk ((w9.alloc (.cells #[.int .i64 0, .int .i64 0, .int .i64 0, .int .i64 0, .int .i64 0, .int .i64 0, .int .i64 0, .int .i64 0, .int .i64 0, .int .i64 0, .int .i64 0, .int .i64 0, .int .i64 0, .int .i64 0, .int .i64 0, .int .i64 0, .int .i64 0, .int .i64 0, .int .i64 0, .int .i64 0, .int .i64 0, .string { data := #[] }, .string { data := #[] }, .slice none 0 0, .slice none 0 0] 32)).setRow w9.heap.size #[.int .i64 (zLo).id, .int .i64 (zLo).ac, .int .i64 (zLo).st, .int .i64 (zLo).pp, .int .i64 (zLo).pi, .int .i64 (zLo).fee, .int .i64 (zLo).pen, .int .i64 (zLo).chg, .int .i64 (zLo).prov, .int .i64 (zLo).loss, .int .i64 (zLo).rcv, .int .i64 ((zLo).tm).me, .int .i64 ((zLo).tm).pr, .int .i64 ((zLo).tm).ppm, .int .i64 ((zLo).tm).stt, .int .i64 ((zLo).tm).ev, .int .i64 ((zLo).tm).ct, .int .i64 ((zLo).tm).ba, .int .i64 ((zLo).tm).mo, .int .i64 ((zLo).tm).pen, .int .i64 ((zLo).tm).fe, .string ((zLo).tm).cal, .string ((zLo).tm).cur, .slice da4 (zLo).ds.length dk4, .slice ca4 (zLo).cs.length ck4]) w9.heap.size _ 32 := Blk_setRow_same Bk.Blk.nw10
 replace hL := hL.later hbs
 replace k1 := k1.later hbs
 replace hM := hM.later hbs
 replace k3 := k3.later hbs
 have cw10 := bl2 hbs cw9
 clear cw9 hbs
 generalize ((w9.alloc (.cells _ 32)).setRow w9.heap.size _) = w10 at *
 generalize w9.heap.size = g4 at *
 clear k4
 (try simp only [List.append_eq, List.cons_append, List.nil_append])
 have HLM := Lib.hid (And.intro hL hM)
 clear hL hM
 have hS0 : SB w10 w10.drew := (Below.refl _ _).drew
 refine wp_region_held_drew (S := SB w10) (by kernel_rfl) hS0 (fun hS => ?_)
 clear hS0
 refine tk 0 (by decide) ?_ hS (by kernel_rfl) (by kernel_rfl) (by kernel_rfl) (by rfl) (fun _ _ _ h => h) ?_ ?_
 rotate_left
 ·intro W hW
  clear hW
  simp only [z0, z1]
  go_simp
  first | done | with_reducible rfl
 simp only [z0, z1, Act.put, z3, z4, z5]
 refine tk 1 (by decide) ?_ hS (by kernel_rfl) (by kernel_rfl) (by kernel_rfl) (by rfl) (fun _ _ _ h => h) ?_ ?_
 rotate_left
 ·intro W hW
  clear hW
  simp only [z0, z1]
  go_simp
  first | done | with_reducible rfl
 simp only [z0, z1, Act.put, z3, z4, z5]
 refine tk 2 (by decide) ?_ hS (by kernel_rfl) (by kernel_rfl) (by kernel_rfl) (by rfl) (fun _ _ _ h => h) ?_ ?_
 rotate_left
 ·intro W hW
  clear hW
  simp only [z0, z1]
  go_simp
  first | done | with_reducible rfl
 simp only [z0, z1, Act.put, z3, z4, z5]
 refine tk 3 (by decide) ?_ hS (by kernel_rfl) (by kernel_rfl) (by kernel_rfl) (by rfl) (fun _ _ _ h => h) ?_ ?_
 rotate_left
 ·intro W hW
  clear hW
  simp only [z0, z1]
  go_simp
  first | done | with_reducible rfl
 simp only [z0, z1, Act.put, z3, z4, z5]
 refine tk 4 (by decide) ?_ hS (by kernel_rfl) (by kernel_rfl) (by kernel_rfl) (by rfl) (fun _ _ _ h => h) ?_ ?_
 rotate_left
 ·intro W hW
  clear hW
  simp only [z0, z1]
  go_simp
  first | done | with_reducible rfl
 simp only [z0, z1, Act.put, z3, z4, z5]
 refine tk 5 (by decide) ?_ hS (by kernel_rfl) (by kernel_rfl) (by kernel_rfl) (by rfl) (fun _ _ _ h => h) ?_ ?_
 rotate_left
 ·intro W hW
  clear hW
  simp only [z0, z1]
  go_simp
  first | done | with_reducible rfl
 simp only [z0, z1, Act.put, z3, z4, z5]
 refine tk 6 (by decide) ?_ hS (by kernel_rfl) (by kernel_rfl) (by kernel_rfl) (by rfl) (fun _ _ _ h => h) ?_ ?_
 rotate_left
 ·intro W hW
  clear hW
  simp only [z0, z1]
  go_simp
  first | done | with_reducible rfl
 simp only [z0, z1, Act.put, z3, z4, z5]
 refine tk 7 (by decide) ?_ hS (by kernel_rfl) (by kernel_rfl) (by kernel_rfl) (by rfl) (fun _ _ _ h => h) ?_ ?_
 rotate_left
 ·intro W hW
  clear hW
  simp only [z0, z1]
  go_simp
  first | done | with_reducible rfl
 simp only [z0, z1, Act.put, z3, z4, z5]
 refine tk 8 (by decide) ?_ hS (by kernel_rfl) (by kernel_rfl) (by kernel_rfl) (by rfl) (fun _ _ _ h => h) ?_ ?_
 rotate_left
 ·intro W hW
  have q := (k1.later hW).c9
  clear hW
  simp only [z0, z1]
  go_simp
  first | done | with_reducible rfl
 simp only [z0, z1, Act.put, z3, z4, z5]
 refine tk 9 (by decide) ?_ hS (by kernel_rfl) (by kernel_rfl) (by kernel_rfl) (by rfl) (fun _ _ _ h => h) ?_ ?_
 rotate_left
 ·intro W hW
  clear hW
  simp only [z0, z1]
  go_simp
  first | done | with_reducible rfl
 simp only [z0, z1, Act.put, z3, z4, z5]
 refine tk 10 (by decide) ?_ hS (by kernel_rfl) (by kernel_rfl) (by kernel_rfl) (by rfl) (fun _ _ _ h => h) ?_ ?_
 rotate_left
 ·intro W hW
  clear hW
  simp only [z0, z1]
  go_simp
  first | done | with_reducible rfl
 simp only [z0, z1, Act.put, z3, z4, z5]
 refine tk 11 (by decide) ?_ hS (by kernel_rfl) (by kernel_rfl) (by kernel_rfl) (by rfl) (fun _ _ _ h => h) ?_ ?_
 rotate_left
 ·intro W hW
  clear hW
  simp only [z0, z1]
  go_simp
  first | done | with_reducible rfl
 simp only [z0, z1, Act.put, z3, z4, z5]
 refine tk 12 (by decide) ?_ hS (by kernel_rfl) (by kernel_rfl) (by kernel_rfl) (by rfl) (fun _ _ _ h => h) ?_ ?_
 rotate_left
 ·intro W hW
  clear hW
  simp only [z0, z1]
  go_simp
  first | done | with_reducible rfl
 simp only [z0, z1, Act.put, z3, z4, z5]
 refine tk 13 (by decide) ?_ hS (by kernel_rfl) (by kernel_rfl) (by kernel_rfl) (by rfl) (fun _ _ _ h => h) ?_ ?_
 rotate_left
 ·intro W hW
  have q := (k1.later hW).c2
  clear hW
  simp only [z0, z1]
  go_simp
  first | done | with_reducible rfl
 simp only [z0, z1, Act.put, z3, z4, z5]
 refine tk 14 (by decide) ?_ hS (by kernel_rfl) (by kernel_rfl) (by kernel_rfl) (by rfl) (fun _ _ _ h => h) ?_ ?_
 rotate_left
 ·intro W hW
  clear hW
  simp only [z0, z1]
  go_simp
  first | done | with_reducible rfl
 simp only [z0, z1, Act.put, z3, z4, z5]
 refine tk 15 (by decide) ?_ hS (by kernel_rfl) (by kernel_rfl) (by kernel_rfl) (by rfl) (fun _ _ _ h => h) ?_ ?_
 rotate_left
 ·intro W hW
  clear hW
  simp only [z0, z1]
  go_simp
  first | done | with_reducible rfl
 simp only [z0, z1, Act.put, z3, z4, z5]
 refine tk 16 (by decide) ?_ hS (by kernel_rfl) (by kernel_rfl) (by kernel_rfl) (by rfl) (fun _ _ _ h => h) ?_ ?_
 rotate_left
 ·intro W hW
  clear hW
  simp only [z0, z1]
  go_simp
  first | done | with_reducible rfl
 simp only [z0, z1, Act.put, z3, z4, z5]
 refine tk 17 (by decide) ?_ hS (by kernel_rfl) (by kernel_rfl) (by kernel_rfl) (by rfl) (fun _ _ _ h => h) ?_ ?_
 rotate_left
 ·intro W hW
  clear hW
  simp only [z0, z1]
  go_simp
  first | done | with_reducible rfl
 simp only [z0, z1, Act.put, z3, z4, z5]
 refine tk 18 (by decide) ?_ hS (by kernel_rfl) (by kernel_rfl) (by kernel_rfl) (by rfl) (fun _ _ _ h => h) ?_ ?_
 rotate_left
 ·intro W hW
  have q := (k1.later hW).c8
  clear hW
  simp only [z0, z1]
  go_simp
  first | done | with_reducible rfl
 simp only [z0, z1, Act.put, z3, z4, z5]
 refine tk 19 (by decide) ?_ hS (by kernel_rfl) (by kernel_rfl) (by kernel_rfl) (by rfl) (fun _ _ _ h => h) ?_ ?_
 rotate_left
 ·intro W hW
  clear hW
  simp only [z0, z1]
  go_simp
  first | done | with_reducible rfl
 simp only [z0, z1, Act.put, z3, z4, z5]
 refine tk 20 (by decide) ?_ hS (by kernel_rfl) (by kernel_rfl) (by kernel_rfl) (by rfl) (fun _ _ _ h => h) ?_ ?_
 rotate_left
 ·intro W hW
  clear hW
  simp only [z0, z1]
  go_simp
  first | done | with_reducible rfl
 simp only [z0, z1, Act.put, z3, z4, z5]
 refine tk 21 (by decide) ?_ hS (by kernel_rfl) (by kernel_rfl) (by kernel_rfl) (by rfl) (fun _ _ _ h => h) ?_ ?_
 rotate_left
 ·intro W hW
  clear hW
  simp only [z0, z1]
  go_simp
  first | done | with_reducible rfl
 simp only [z0, z1, Act.put, z3, z4, z5]
 refine tk 22 (by decide) ?_ hS (by kernel_rfl) (by kernel_rfl) (by kernel_rfl) (by rfl) (fun _ _ _ h => h) ?_ ?_
 rotate_left
 ·intro W hW
  clear hW
  simp only [z0, z1]
  go_simp
  first | done | with_reducible rfl
 simp only [z0, z1, Act.put, z3, z4, z5]
 refine tk 23 (by decide) ?_ hS (by kernel_rfl) (by kernel_rfl) (by kernel_rfl) (by rfl) (fun _ _ _ h => h) ?_ ?_
 rotate_left
 ·intro W hW
  have q := (k1.later hW).c6
  clear hW
  simp only [z0, z1]
  go_simp
  first | done | with_reducible rfl
 simp only [z0, z1, Act.put, z3, z4, z5]
 refine tk 24 (by decide) ?_ hS (by kernel_rfl) (by kernel_rfl) (by kernel_rfl) (by rfl) (fun _ _ _ h => h) ?_ ?_
 rotate_left
 ·intro W hW
  clear hW
  simp only [z0, z1]
  go_simp
  first | done | with_reducible rfl
 simp only [z0, z1, Act.put, z3, z4, z5]
 refine tk 25 (by decide) ?_ hS (by kernel_rfl) (by kernel_rfl) (by kernel_rfl) (by rfl) (fun _ _ _ h => h) ?_ ?_
 rotate_left
 ·intro W hW
  clear hW
  simp only [z0, z1]
  go_simp
  first | done | with_reducible rfl
 simp only [z0, z1, Act.put, z3, z4, z5]
 refine tk 26 (by decide) ?_ hS (by kernel_rfl) (by kernel_rfl) (by kernel_rfl) (by rfl) (fun _ _ _ h => h) ?_ ?_
 rotate_left
 ·intro W hW
  clear hW
  simp only [z0, z1]
  go_simp
  first | done | with_reducible rfl
 simp only [z0, z1, Act.put, z3, z4, z5]
 refine tk 27 (by decide) ?_ hS (by kernel_rfl) (by kernel_rfl) (by kernel_rfl) (by rfl) (fun _ _ _ h => h) ?_ ?_
 rotate_left
 ·intro W hW
  clear hW
  simp only [z0, z1]
  go_simp
  first | done | with_reducible rfl
 simp only [z0, z1, Act.put, z3, z4, z5]
 refine tk 28 (by decide) ?_ hS (by kernel_rfl) (by kernel_rfl) (by kernel_rfl) (by rfl) (fun _ _ _ h => h) ?_ ?_
 rotate_left
 ·intro W hW
  clear hW
  simp only [z0, z1]
  go_simp
  first | done | with_reducible rfl
 simp only [z0, z1, Act.put, z3, z4, z5]
 refine tk 29 (by decide) ?_ hS (by kernel_rfl) (by kernel_rfl) (by kernel_rfl) (by rfl) (fun _ _ _ h => h) ?_ ?_
 rotate_left
 ·intro W hW
  clear hW
  simp only [z0, z1]
  go_simp
  first | done | with_reducible rfl
 simp only [z0, z1, Act.put, z3, z4, z5]
 refine tk 30 (by decide) ?_ hS (by kernel_rfl) (by kernel_rfl) (by kernel_rfl) (by rfl) (fun _ _ _ h => h) ?_ ?_
 rotate_left
 ·intro W hW
  clear hW
  simp only [z0, z1]
  go_simp
  first | done | with_reducible rfl
 simp only [z0, z1, Act.put, z3, z4, z5]
 refine tk 31 (by decide) ?_ hS (by kernel_rfl) (by kernel_rfl) (by kernel_rfl) (by rfl) (fun _ _ _ h => h) ?_ ?_
 rotate_left
 ·intro W hW
  clear hW
  simp only [z0, z1]
  go_simp
  first | done | with_reducible rfl
 simp only [z0, z1, Act.put, z3, z4, z5]
 refine tk 32 (by decide) ?_ hS (by kernel_rfl) (by kernel_rfl) (by kernel_rfl) (by rfl) (fun _ _ _ h => h) ?_ ?_
 rotate_left
 ·intro W hW
  have q := (k3.later hW).c10
  clear hW
  simp only [z0, z1]
  go_simp
  first | done | with_reducible rfl
 simp only [z0, z1, Act.put, z3, z4, z5]
 refine tk 33 (by decide) ?_ hS (by kernel_rfl) (by kernel_rfl) (by kernel_rfl) (by rfl) (fun _ _ _ h => h) ?_ ?_
 rotate_left
 ·intro W hW
  clear hW
  simp only [z0, z1]
  go_simp
  first | done | with_reducible rfl
 simp only [z0, z1, Act.put, z3, z4, z5]
 refine tk 34 (by decide) ?_ hS (by kernel_rfl) (by kernel_rfl) (by kernel_rfl) (by rfl) (fun _ _ _ h => h) ?_ ?_
 rotate_left
 ·intro W hW
  clear hW
  simp only [z0, z1]
  go_simp
  first | done | with_reducible rfl
 simp only [z0, z1, Act.put, z3, z4, z5]
 refine tk 35 (by decide) ?_ hS (by kernel_rfl) (by kernel_rfl) (by kernel_rfl) (by rfl) (fun _ _ _ h => h) ?_ ?_
 rotate_left
 ·intro W hW
  clear hW
  simp only [z0, z1]
  go_simp
  first | done | with_reducible rfl
 simp only [z0, z1, Act.put, z3, z4, z5]
 refine tk 36 (by decide) ?_ hS (by kernel_rfl) (by kernel_rfl) (by kernel_rfl) (by rfl) (fun _ _ _ h => h) ?_ ?_
 rotate_left
 ·intro W hW
  clear hW
  simp only [z0, z1]
  go_simp
  first | done | with_reducible rfl
 simp only [z0, z1, Act.put, z3, z4, z5]
 refine tk 37 (by decide) ?_ hS (by kernel_rfl) (by kernel_rfl) (by kernel_rfl) (by rfl) (fun _ _ _ h => h) ?_ ?_
 rotate_left
 ·intro W hW
  clear hW
  simp only [z0, z1]
  go_simp
  first | done | with_reducible rfl
 simp only [z0, z1, Act.put, z3, z4, z5]
 refine tk 38 (by decide) ?_ hS (by kernel_rfl) (by kernel_rfl) (by kernel_rfl) (by rfl) (fun _ _ _ h => h) ?_ ?_
 rotate_left
 ·intro W hW
  clear hW
  simp only [z0, z1]
  go_simp
  first | done | with_reducible rfl
 simp only [z0, z1, Act.put, z3, z4, z5]
 refine tk 39 (by decide) ?_ hS (by kernel_rfl) (by kernel_rfl) (by kernel_rfl) (by rfl) (fun _ _ _ h => h) ?_ ?_
 rotate_left
 ·intro W hW
  clear hW
  simp only [z0, z1]
  go_simp
  first | done | with_reducible rfl
 simp only [z0, z1, Act.put, z3, z4, z5]
 refine tk 40 (by decide) ?_ hS (by kernel_rfl) (by kernel_rfl) (by kernel_rfl) (by rfl) (fun _ _ _ h => h) ?_ ?_
 rotate_left
 ·intro W hW
  clear hW
  simp only [z0, z1]
  go_simp
  first | done | with_reducible rfl
 simp only [z0, z1, Act.put, z3, z4, z5]
 refine tk 41 (by decide) ?_ hS (by kernel_rfl) (by kernel_rfl) (by kernel_rfl) (by rfl) (fun _ _ _ h => h) ?_ ?_
 rotate_left
 ·intro W hW
  clear hW
  simp only [z0, z1]
  go_simp
  first | done | with_reducible rfl
 simp only [z0, z1, Act.put, z3, z4, z5]
 refine tk 42 (by decide) ?_ hS (by kernel_rfl) (by kernel_rfl) (by kernel_rfl) (by rfl) (fun _ _ _ h => h) ?_ ?_
 rotate_left
 ·intro W hW
  clear hW
  simp only [z0, z1]
  go_simp
  first | done | with_reducible rfl
 simp only [z0, z1, Act.put, z3, z4, z5]
 refine tk 43 (by decide) ?_ hS (by kernel_rfl) (by kernel_rfl) (by kernel_rfl) (by rfl) (fun _ _ _ h => h) ?_ ?_
 rotate_left
 ·intro W hW
  clear hW
  simp only [z0, z1]
  go_simp
  first | done | with_reducible rfl
 simp only [z0, z1, Act.put, z3, z4, z5]
 refine tk 44 (by decide) ?_ hS (by kernel_rfl) (by kernel_rfl) (by kernel_rfl) (by rfl) (fun _ _ _ h => h) ?_ ?_
 rotate_left
 ·intro W hW
  clear hW
  simp only [z0, z1]
  go_simp
  first | done | with_reducible rfl
 simp only [z0, z1, Act.put, z3, z4, z5]
 refine tk 45 (by decide) ?_ hS (by kernel_rfl) (by kernel_rfl) (by kernel_rfl) (by rfl) (fun _ _ _ h => h) ?_ ?_
 rotate_left
 ·intro W hW
  clear hW
  simp only [z0, z1]
  go_simp
  first | done | with_reducible rfl
 simp only [z0, z1, Act.put, z3, z4, z5]
 refine tk 46 (by decide) ?_ hS (by kernel_rfl) (by kernel_rfl) (by kernel_rfl) (by rfl) (fun _ _ _ h => h) ?_ ?_
 rotate_left
 ·intro W hW
  clear hW
  simp only [z0, z1]
  go_simp
  first | done | with_reducible rfl
 simp only [z0, z1, Act.put, z3, z4, z5]
 refine tk 47 (by decide) ?_ hS (by kernel_rfl) (by kernel_rfl) (by kernel_rfl) (by rfl) (fun _ _ _ h => h) ?_ ?_
 rotate_left
 ·intro W hW
  clear hW
  simp only [z0, z1]
  go_simp
  first | done | with_reducible rfl
 simp only [z0, z1, Act.put, z3, z4, z5]
 refine take_at 49 (by decide) (by kernel_rfl) (by kernel_rfl) (by kernel_rfl) (fun _ _ _ h => h) hS (yields_load_row (by rfl) 32 (.tmp 7) rfl g3 rfl _ _ _ _ (fun W hW => (k3.later hW)) Tryz.underlying32 rfl (by kernel_rfl)) ?_
 simp only [z0, z1, Act.put, z3, z4, z5]
 refine take_at 50 (by decide) (by kernel_rfl) (by kernel_rfl) (by kernel_rfl) (fun _ _ _ h => h) hS (yields_load_row (by rfl) 32 (.tmp 1) rfl g1 rfl _ _ _ _ (fun W hW => (k1.later hW)) Tryz.underlying32 rfl (by kernel_rfl)) ?_
 simp only [z0, z1, Act.put, z3, z4, z5]
 refine call_at 48 (by decide) (Pi := Sm39P) (by kernel_rfl) (by rfl) (by simp only [z0, z1]; go_simp; first | done | rfl | exact ⟨rfl, rfl⟩) (call_pv SB.mono hS (sample39_any _)) ?_
 clear hS
 rintro w11 u hS ⟨q9, rfl, hd9⟩
 simp only [z0, z1, Act.put, z3, z4, z5]
 refine one_at 51 (by decide) (by kernel_rfl) (by rfl) (fun K hK => ?_)
 refine value_wp (by simp only [z0, z1]; go_simp; first | done | rfl | exact ⟨rfl, rfl⟩) ?_
 have hT : SB w10 (w11.alloc (.cells #[.int .i64 1, .int .i64 1000, .int .i64 1, .int .i64 0, .int .i64 0, .int .i64 0, .int .i64 4, .int .i64 30, .int .i64 315, .int .i64 0, .int .i64 0, .int .i64 2, .int .i64 700, .int .i64 0, .int .i64 30, .int .i64 1, .int .i64 1, .int .i64 0, .int .i64 1, .int .i64 0, .int .i64 0, .string { data := #[104, 111, 109, 101] }, .string { data := #[69, 85, 82] }, .slice (some ⟨q9, 0, none⟩) 1 1, .slice none 0 0, .int .i64 1, .int .i64 1000, .int .i64 3, .int .i64 0, .int .i64 0, .int .i64 0, .int .i64 0, .int .i64 30, .int .i64 0, .int .i64 700, .int .i64 700, .int .i64 2, .int .i64 700, .int .i64 0, .int .i64 30, .int .i64 1, .int .i64 1, .int .i64 0, .int .i64 1, .int .i64 0, .int .i64 0, .string { data := #[104, 111, 109, 101] }, .string { data := #[69, 85, 82] }, .slice da3 1 dk3, .slice ca3 0 ck3, .int .i64 1, .int .i64 1000, .int .i64 3, .int .i64 0, .int .i64 0, .int .i64 0, .int .i64 0, .int .i64 30, .int .i64 0, .int .i64 700, .int .i64 0, .int .i64 2, .int .i64 700, .int .i64 0, .int .i64 30, .int .i64 1, .int .i64 1, .int .i64 0, .int .i64 1, .int .i64 0, .int .i64 0, .string { data := #[104, 111, 109, 101] }, .string { data := #[69, 85, 82] }, .slice da1 1 dk1, .slice ca1 0 ck1] 32)) := SB.mono _ _ hS ((Below.refl _ _).alloc (Nat.le_refl _) _)
 refine hK.out _ _ hT (fun hT' => ?_)
 clear hT'
 simp only [z0, z1, Act.put, z3, z4, z5]
 refine call_at 52 (by decide) (Pi := (fun v _ => v = .int .i64 1400)) (by kernel_rfl) (by rfl) (by simp only [z0, z1]; go_simp; first | done | rfl | exact ⟨rfl, rfl⟩) (call_one SB.mono hT (expo39 q9 da1 ca1 da3 ca3 dk1 ck1 dk3 ck3 w11 hd9 ⟨HLM.out.2.d.later hS, HLM.out.2.c.later hS⟩ ⟨HLM.out.1.d.later hS, HLM.out.1.c.later hS⟩ _ rfl)) ?_
 clear hT
 rintro w12 u hS2 rfl
 simp only [z0, z1, Act.put, z3, z4, z5]
 refine tk 53 (by decide) ?_ hS2 (by kernel_rfl) (by kernel_rfl) (by kernel_rfl) (by rfl) (fun _ _ _ h => h) ?_ ?_
 rotate_left
 ·intro W hW
  clear hW
  simp only [z0, z1]
  go_simp
  first | done | with_reducible rfl
 simp only [z0, z1, Act.put, z3, z4, z5]
 refine tk 54 (by decide) ?_ hS2 (by kernel_rfl) (by kernel_rfl) (by kernel_rfl) (by rfl) (fun _ _ _ h => h) ?_ ?_
 rotate_left
 ·intro W hW
  clear hW
  simp only [z0, z1]
  go_simp
  first | done | with_reducible rfl
 simp only [z0, z1, Act.put, z3, z4, z5]
 refine tk 55 (by decide) ?_ hS2 (by kernel_rfl) (by kernel_rfl) (by kernel_rfl) (by rfl) (fun _ _ _ h => h) ?_ ?_
 rotate_left
 ·intro W hW
  clear hW
  simp only [z0, z1]
  go_simp
  first | done | with_reducible rfl
 simp only [z0, z1, Act.put, z3, z4, z5]
 refine wpAnyH_done (by kernel_rfl) ?_ _
 go_wp2_with fail
 go_ret
 exact ⟨rfl, bl2 hS2 cw10⟩
end Go.Proofs.YtlolflephnbbcaaGreatDoor.Ln
