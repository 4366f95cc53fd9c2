/-
 The chapter's example: small, Live.
 great, broad, total of the statements; what Full and Partial return.
-/
import Derived.Test.YtaanicginfjgdaaGreatDoorPp5
import Derived.Test.YtaanicginfjgdaaGreatDoorPp9
import Derived.Test.YtaanicginfjgdaaGreatDoorPpx
namespace Go.Proofs.YtaanicginfjgdaaGreatDoor.Pp
open Go Go.RowKit
open Go.Proofs.YtaanicginfjgdaaGreatDoor
open Go.Proofs.YtaanicginfjgdaaGreatDoor.Ln (Tm Ch Du Lo Pa sum prs its P I due chk Ok ok_iff wrap_in wrap_add powed zLo LoIn DuesIn RowIn OwnR denc denc_len cenc cenc_len penc penc_len tenc flat flat_len Dok dues_of_row bl2 SB SB.mono SQ SQ.mono take_at one_at two_at call_at call_wp call_one call_pv value_wp yields_load_row Blk_setRow_same Blk_setRow_ne Below_setRow dues_setRow row_row one25 load_guarded results2_cell dues_lt rowc_lt rangeAt_later tk ts z0 z1 z3 z4 z5)
open Go.Proofs.YtaanicginfjgdaaGreatDoor.Ln (load_guarded_mid)
open Go.Proofs.YtaanicginfjgdaaGreatDoor.Kl (euB)
open Go.Proofs.YtaanicginfjgdaaGreatDoor.Rd (gd pcV pcE Stp)
open Go.Proofs.YtaanicginfjgdaaGreatDoor.Kl (Cl CalIn skE)
set_option linter.unusedSimpArgs false
set_option linter.unusedVariables false
set_option maxRecDepth 100000

theorem results_cc {P : Program} {fn : Func} {p q : Tmp} {ty ty2 : TypeId} (h : fn.results = #[.cell p ty, .cell q ty2]) (tmps : Array Value) (w : World) (g g2 : Nat) (t t2 : TypeId) (cs cs2 : Array Value) (fr fr2 : Nat × Nat) (d d2 : TypeDesc)
  (hp : tmps.getD p undef = .pointer (some ⟨g, 0, none⟩)) (hg : w.heap[g]? = some (.cells cs t fr)) (hp2 : tmps.getD q undef = .pointer (some ⟨g2, 0, none⟩)) (hg2 : w.heap[g2]? = some (.cells cs2 t2 fr2))
  (hu : P.underlying ty = some d) (hd : (match d with | .struct _ | .array _ _ => true | _ => false) = true) (hi : (P.info? ty).map (·.size) = some cs.size)
  (hu2 : P.underlying ty2 = some d2) (hd2 : (match d2 with | .struct _ | .array _ _ => true | _ => false) = true) (hi2 : (P.info? ty2).map (·.size) = some cs2.size) :
  (Go.results fn tmps).run P w = .ok (.tuple #[.agg cs, .agg cs2]) w := by
 have hp' : tmps[p]?.getD undef = .pointer (some ⟨g, 0, none⟩) := by simpa using hp
 have hq' : tmps[q]?.getD undef = .pointer (some ⟨g2, 0, none⟩) := by simpa using hp2
 simp [Go.results, h, hp', hq', asAddr, run_loadVar_row w g t ty cs fr d hg hu hd hi, run_loadVar_row w g2 t2 ty2 cs2 fr2 d2 hg2 hu2 hd2 hi2]
theorem row_of3 {W : World} {g : Nat} {t : TypeId} {xs : List Du} (h : Bk.Blk W g (flat denc xs).toArray t) : RowIn denc W (some ⟨g, 0, none⟩) xs := fun _ =>
 ⟨g, 0, rfl, fun j u hj => by rw [Nat.zero_add, h.cell]; simpa using hj⟩
def SmV (v : Value) (W : World) : Prop := ∃ g, v = .tuple #[.agg #[.int .i64 1, .int .i64 1000, .int .i64 1, .int .i64 0, .int .i64 0, .int .i64 0, .int .i64 0, .int .i64 0, .int .i64 0, .int .i64 0, .int .i64 0, .int .i64 1, .int .i64 1000, .int .i64 120000, .int .i64 0, .int .i64 1, .int .i64 3, .int .i64 0, .int .i64 6, .int .i64 0, .int .i64 10000, .string { data := #[99] }, .string { data := #[69, 85, 82] }, .slice (some ⟨g, 0, none⟩) 3 3, .slice none 0 0], .agg #[.string { data := #[99] }, .slice none 0 0, .slice none 0 0]] ∧ DuesIn W (some ⟨g, 0, none⟩) smL.ds
set_option maxHeartbeats 8000000 in
theorem small_any (w : World) : Calls Tryz.prog 19 #[] w fun e w' => ∃ v, e = .returned v ∧ SmV v w' ∧ Below w.heap.size w w' := by
 have cw1 : Below w.heap.size w ((w.alloc (.cells #[.int .i64 0, .int .i64 0, .int .i64 0, .int .i64 0, .int .i64 0, .int .i64 0, .int .i64 0, .int .i64 0, .int .i64 0, .int .i64 0, .int .i64 0, .int .i64 0, .int .i64 0, .int .i64 0, .int .i64 0, .int .i64 0, .int .i64 0, .int .i64 0, .int .i64 0, .int .i64 0, .int .i64 0, .string { data := #[] }, .string { data := #[] }, .slice none 0 0, .slice none 0 0] 27)).alloc (.cells #[.string { data := #[] }, .slice none 0 0, .slice none 0 0] 44)) := ((Below.refl _ _).alloc (Nat.le_refl _) _).alloc (by simp) _
 have kz : Bk.Blk ((w.alloc (.cells #[.int .i64 0, .int .i64 0, .int .i64 0, .int .i64 0, .int .i64 0, .int .i64 0, .int .i64 0, .int .i64 0, .int .i64 0, .int .i64 0, .int .i64 0, .int .i64 0, .int .i64 0, .int .i64 0, .int .i64 0, .int .i64 0, .int .i64 0, .int .i64 0, .int .i64 0, .int .i64 0, .int .i64 0, .string { data := #[] }, .string { data := #[] }, .slice none 0 0, .slice none 0 0] 27)).alloc (.cells #[.string { data := #[] }, .slice none 0 0, .slice none 0 0] 44)) w.heap.size _ 27 := Bk.Blk.nw20
 have ky : Bk.Blk ((w.alloc (.cells #[.int .i64 0, .int .i64 0, .int .i64 0, .int .i64 0, .int .i64 0, .int .i64 0, .int .i64 0, .int .i64 0, .int .i64 0, .int .i64 0, .int .i64 0, .int .i64 0, .int .i64 0, .int .i64 0, .int .i64 0, .int .i64 0, .int .i64 0, .int .i64 0, .int .i64 0, .int .i64 0, .int .i64 0, .string { data := #[] }, .string { data := #[] }, .slice none 0 0, .slice none 0 0] 27)).alloc (.cells #[.string { data := #[] }, .slice none 0 0, .slice none 0 0] 44)) (w.heap.size + 1) _ 44 := Bk.Blk.nw21
 go_enter Tryz.func19, Tryz.ntmps19
 go_upto_region 1 with fail
 generalize ((w.alloc (.cells _ 27)).alloc (.cells _ 44)) = w1 at *
 have hb2 : Below w1.heap.size w1 ((w1.alloc (.cells #[.int .i64 0, .int .i64 0, .int .i64 0, .int .i64 0, .int .i64 0, .int .i64 0, .int .i64 0, .int .i64 0, .int .i64 0, .int .i64 0, .string { data := #[] }, .string { data := #[] }] 23)).setRow w1.heap.size #[.int .i64 1, .int .i64 1000, .int .i64 120000, .int .i64 0, .int .i64 1, .int .i64 3, .int .i64 0, .int .i64 6, .int .i64 0, .int .i64 10000, .string { data := #[99] }, .string { data := #[69, 85, 82] }]) := Below_setRow ((Below.refl _ _).alloc (Nat.le_refl _) _) (Nat.le_refl _) _
 have kt : Bk.Blk ((w1.alloc (.cells #[.int .i64 0, .int .i64 0, .int .i64 0, .int .i64 0, .int .i64 0, .int .i64 0, .int .i64 0, .int .i64 0, .int .i64 0, .int .i64 0, .string { data := #[] }, .string { data := #[] }] 23)).setRow w1.heap.size #[.int .i64 1, .int .i64 1000, .int .i64 120000, .int .i64 0, .int .i64 1, .int .i64 3, .int .i64 0, .int .i64 6, .int .i64 0, .int .i64 10000, .string { data := #[99] }, .string { data := #[69, 85, 82] }]) w1.heap.size _ 23 := Blk_setRow_same Bk.Blk.nw10
 have hky := ky.lt
 go_upto_region 2 with (refine wpList_store_row rfl 23 _ _ rfl _ _ rfl rfl _ _ Bk.Blk.nw10 (by kernel_rfl) rfl (by simp [Value.oneCell', denc]) ?_)
 have cw2 := bl2 hb2 cw1
 replace kz := kz.later hb2
 replace ky := ky.later hb2
 clear hb2 cw1
 generalize ((w1.alloc (.cells _ 23)).setRow w1.heap.size _) = w2 at *
 generalize w1.heap.size = g1 at *
 have hkt := kt.lt
 have kn : Bk.Blk ((w2.alloc (.cells #[.int .i64 1, .int .i64 31, .int .i64 330, .int .i64 10, .int .i64 2, .int .i64 60, .int .i64 333, .int .i64 7, .int .i64 3, .int .i64 91, .int .i64 337, .int .i64 3] 53)).alloc (.cells #[.int .i64 0, .int .i64 0, .int .i64 0, .int .i64 0, .int .i64 0, .int .i64 0, .int .i64 0, .int .i64 0, .int .i64 0, .int .i64 0, .int .i64 0, .int .i64 0, .int .i64 0, .int .i64 0, .int .i64 0, .int .i64 0, .int .i64 0, .int .i64 0, .int .i64 0, .int .i64 0, .int .i64 0, .string { data := #[] }, .string { data := #[] }, .slice none 0 0, .slice none 0 0] 27)) (w2.heap.size + 1) _ 27 := Bk.Blk.nw21
 have kn0 : Bk.Blk ((w2.alloc (.cells #[.int .i64 1, .int .i64 31, .int .i64 330, .int .i64 10, .int .i64 2, .int .i64 60, .int .i64 333, .int .i64 7, .int .i64 3, .int .i64 91, .int .i64 337, .int .i64 3] 53)).alloc (.cells #[.int .i64 0, .int .i64 0, .int .i64 0, .int .i64 0, .int .i64 0, .int .i64 0, .int .i64 0, .int .i64 0, .int .i64 0, .int .i64 0, .int .i64 0, .int .i64 0, .int .i64 0, .int .i64 0, .int .i64 0, .int .i64 0, .int .i64 0, .int .i64 0, .int .i64 0, .int .i64 0, .int .i64 0, .string { data := #[] }, .string { data := #[] }, .slice none 0 0, .slice none 0 0] 27)) w2.heap.size _ 53 := Bk.Blk.nw20
 have hb3 : Below w2.heap.size w2 (((w2.alloc (.cells #[.int .i64 1, .int .i64 31, .int .i64 330, .int .i64 10, .int .i64 2, .int .i64 60, .int .i64 333, .int .i64 7, .int .i64 3, .int .i64 91, .int .i64 337, .int .i64 3] 53)).alloc (.cells #[.int .i64 0, .int .i64 0, .int .i64 0, .int .i64 0, .int .i64 0, .int .i64 0, .int .i64 0, .int .i64 0, .int .i64 0, .int .i64 0, .int .i64 0, .int .i64 0, .int .i64 0, .int .i64 0, .int .i64 0, .int .i64 0, .int .i64 0, .int .i64 0, .int .i64 0, .int .i64 0, .int .i64 0, .string { data := #[] }, .string { data := #[] }, .slice none 0 0, .slice none 0 0] 27)).setRow (w2.heap.size + 1) #[.int .i64 1, .int .i64 1000, .int .i64 1, .int .i64 0, .int .i64 0, .int .i64 0, .int .i64 0, .int .i64 0, .int .i64 0, .int .i64 0, .int .i64 0, .int .i64 1, .int .i64 1000, .int .i64 120000, .int .i64 0, .int .i64 1, .int .i64 3, .int .i64 0, .int .i64 6, .int .i64 0, .int .i64 10000, .string { data := #[99] }, .string { data := #[69, 85, 82] }, .slice (some ⟨w2.heap.size, 0, none⟩) 3 3, .slice none 0 0]) := Below_setRow (((Below.refl _ _).alloc (Nat.le_refl _) _).alloc (by simp) _) (by omega) _
 have hr : DuesIn (((w2.alloc (.cells #[.int .i64 1, .int .i64 31, .int .i64 330, .int .i64 10, .int .i64 2, .int .i64 60, .int .i64 333, .int .i64 7, .int .i64 3, .int .i64 91, .int .i64 337, .int .i64 3] 53)).alloc (.cells #[.int .i64 0, .int .i64 0, .int .i64 0, .int .i64 0, .int .i64 0, .int .i64 0, .int .i64 0, .int .i64 0, .int .i64 0, .int .i64 0, .int .i64 0, .int .i64 0, .int .i64 0, .int .i64 0, .int .i64 0, .int .i64 0, .int .i64 0, .int .i64 0, .int .i64 0, .int .i64 0, .int .i64 0, .string { data := #[] }, .string { data := #[] }, .slice none 0 0, .slice none 0 0] 27)).setRow (w2.heap.size + 1) #[.int .i64 1, .int .i64 1000, .int .i64 1, .int .i64 0, .int .i64 0, .int .i64 0, .int .i64 0, .int .i64 0, .int .i64 0, .int .i64 0, .int .i64 0, .int .i64 1, .int .i64 1000, .int .i64 120000, .int .i64 0, .int .i64 1, .int .i64 3, .int .i64 0, .int .i64 6, .int .i64 0, .int .i64 10000, .string { data := #[99] }, .string { data := #[69, 85, 82] }, .slice (some ⟨w2.heap.size, 0, none⟩) 3 3, .slice none 0 0]) (some ⟨w2.heap.size, 0, none⟩) smL.ds := dues_of_row (by decide) (row_of3 (xs := smL.ds) (Blk_setRow_ne kn0 (by omega)))
 have kl : Bk.Blk (((w2.alloc (.cells #[.int .i64 1, .int .i64 31, .int .i64 330, .int .i64 10, .int .i64 2, .int .i64 60, .int .i64 333, .int .i64 7, .int .i64 3, .int .i64 91, .int .i64 337, .int .i64 3] 53)).alloc (.cells #[.int .i64 0, .int .i64 0, .int .i64 0, .int .i64 0, .int .i64 0, .int .i64 0, .int .i64 0, .int .i64 0, .int .i64 0, .int .i64 0, .int .i64 0, .int .i64 0, .int .i64 0, .int .i64 0, .int .i64 0, .int .i64 0, .int .i64 0, .int .i64 0, .int .i64 0, .int .i64 0, .int .i64 0, .string { data := #[] }, .string { data := #[] }, .slice none 0 0, .slice none 0 0] 27)).setRow (w2.heap.size + 1) #[.int .i64 1, .int .i64 1000, .int .i64 1, .int .i64 0, .int .i64 0, .int .i64 0, .int .i64 0, .int .i64 0, .int .i64 0, .int .i64 0, .int .i64 0, .int .i64 1, .int .i64 1000, .int .i64 120000, .int .i64 0, .int .i64 1, .int .i64 3, .int .i64 0, .int .i64 6, .int .i64 0, .int .i64 10000, .string { data := #[99] }, .string { data := #[69, 85, 82] }, .slice (some ⟨w2.heap.size, 0, none⟩) 3 3, .slice none 0 0]) (w2.heap.size + 1) _ 27 := Blk_setRow_same kn
 have cw4 := bl2 hb3 cw2
 replace kz := kz.later hb3
 replace ky := ky.later hb3
 have kt3 : Bk.Blk (w2.alloc (.cells #[.int .i64 1, .int .i64 31, .int .i64 330, .int .i64 10, .int .i64 2, .int .i64 60, .int .i64 333, .int .i64 7, .int .i64 3, .int .i64 91, .int .i64 337, .int .i64 3] 53)) g1 #[.int .i64 1, .int .i64 1000, .int .i64 120000, .int .i64 0, .int .i64 1, .int .i64 3, .int .i64 0, .int .i64 6, .int .i64 0, .int .i64 10000, .string { data := #[99] }, .string { data := #[69, 85, 82] }] 23 := kt.later ((Below.refl _ _).alloc (Nat.le_refl _) _)
 clear hb3 cw2
 go_upto_region 3 with (first | (refine wpList_load_row rfl 23 _ rfl _ rfl _ _ _ _ kt Tryz.underlying23 rfl (by kernel_rfl) ?_) | (refine wpList_load_row rfl 23 _ rfl _ rfl _ _ _ _ kt3 Tryz.underlying23 rfl (by kernel_rfl) ?_) | (refine wpList_store_row rfl 27 _ _ rfl _ _ rfl rfl _ _ kn (by kernel_rfl) rfl (by simp [Value.oneCell', denc]) ?_))
 clear kt kt3 kn kn0
 generalize (((w2.alloc (.cells _ 53)).alloc (.cells _ 27)).setRow (w2.heap.size + 1) _) = w4 at *
 generalize w2.heap.size = g3 at *
 have ky2 : Bk.Blk (w4.setRow w.heap.size #[.int .i64 1, .int .i64 1000, .int .i64 1, .int .i64 0, .int .i64 0, .int .i64 0, .int .i64 0, .int .i64 0, .int .i64 0, .int .i64 0, .int .i64 0, .int .i64 1, .int .i64 1000, .int .i64 120000, .int .i64 0, .int .i64 1, .int .i64 3, .int .i64 0, .int .i64 6, .int .i64 0, .int .i64 10000, .string { data := #[99] }, .string { data := #[69, 85, 82] }, .slice (some ⟨g3, 0, none⟩) 3 3, .slice none 0 0]) (w.heap.size + 1) _ 44 := Blk_setRow_ne ky (by omega)
 have kz2 : Bk.Blk (w4.setRow w.heap.size #[.int .i64 1, .int .i64 1000, .int .i64 1, .int .i64 0, .int .i64 0, .int .i64 0, .int .i64 0, .int .i64 0, .int .i64 0, .int .i64 0, .int .i64 0, .int .i64 1, .int .i64 1000, .int .i64 120000, .int .i64 0, .int .i64 1, .int .i64 3, .int .i64 0, .int .i64 6, .int .i64 0, .int .i64 10000, .string { data := #[99] }, .string { data := #[69, 85, 82] }, .slice (some ⟨g3, 0, none⟩) 3 3, .slice none 0 0]) w.heap.size _ 27 := Blk_setRow_same kz
 have hr2 := dues_setRow hr (g := w.heap.size) (cs := #[.int .i64 1, .int .i64 1000, .int .i64 1, .int .i64 0, .int .i64 0, .int .i64 0, .int .i64 0, .int .i64 0, .int .i64 0, .int .i64 0, .int .i64 0, .int .i64 1, .int .i64 1000, .int .i64 120000, .int .i64 0, .int .i64 1, .int .i64 3, .int .i64 0, .int .i64 6, .int .i64 0, .int .i64 10000, .string { data := #[99] }, .string { data := #[69, 85, 82] }, .slice (some ⟨g3, 0, none⟩) 3 3, .slice none 0 0]) (fun ad had => by cases had; show g3 ≠ _; omega)
 have cw5 : Below w.heap.size w (w4.setRow w.heap.size #[.int .i64 1, .int .i64 1000, .int .i64 1, .int .i64 0, .int .i64 0, .int .i64 0, .int .i64 0, .int .i64 0, .int .i64 0, .int .i64 0, .int .i64 0, .int .i64 1, .int .i64 1000, .int .i64 120000, .int .i64 0, .int .i64 1, .int .i64 3, .int .i64 0, .int .i64 6, .int .i64 0, .int .i64 10000, .string { data := #[99] }, .string { data := #[69, 85, 82] }, .slice (some ⟨g3, 0, none⟩) 3 3, .slice none 0 0]) := Below_setRow cw4 (Nat.le_refl _) _
 have kz3 : Bk.Blk ((w4.setRow w.heap.size #[.int .i64 1, .int .i64 1000, .int .i64 1, .int .i64 0, .int .i64 0, .int .i64 0, .int .i64 0, .int .i64 0, .int .i64 0, .int .i64 0, .int .i64 0, .int .i64 1, .int .i64 1000, .int .i64 120000, .int .i64 0, .int .i64 1, .int .i64 3, .int .i64 0, .int .i64 6, .int .i64 0, .int .i64 10000, .string { data := #[99] }, .string { data := #[69, 85, 82] }, .slice (some ⟨g3, 0, none⟩) 3 3, .slice none 0 0]).setRow (w.heap.size + 1) #[.string { data := #[99] }, .slice none 0 0, .slice none 0 0]) w.heap.size _ 27 := Blk_setRow_ne kz2 (by omega)
 have ky3 : Bk.Blk ((w4.setRow w.heap.size #[.int .i64 1, .int .i64 1000, .int .i64 1, .int .i64 0, .int .i64 0, .int .i64 0, .int .i64 0, .int .i64 0, .int .i64 0, .int .i64 0, .int .i64 0, .int .i64 1, .int .i64 1000, .int .i64 120000, .int .i64 0, .int .i64 1, .int .i64 3, .int .i64 0, .int .i64 6, .int .i64 0, .int .i64 10000, .string { data := #[99] }, .string { data := #[69, 85, 82] }, .slice (some ⟨g3, 0, none⟩) 3 3, .slice none 0 0]).setRow (w.heap.size + 1) #[.string { data := #[99] }, .slice none 0 0, .slice none 0 0]) (w.heap.size + 1) _ 44 := Blk_setRow_same ky2
 have hr3 := dues_setRow hr2 (g := w.heap.size + 1) (cs := #[.string { data := #[99] }, .slice none 0 0, .slice none 0 0]) (fun ad had => by cases had; show g3 ≠ _; omega)
 have cw6 : Below w.heap.size w ((w4.setRow w.heap.size #[.int .i64 1, .int .i64 1000, .int .i64 1, .int .i64 0, .int .i64 0, .int .i64 0, .int .i64 0, .int .i64 0, .int .i64 0, .int .i64 0, .int .i64 0, .int .i64 1, .int .i64 1000, .int .i64 120000, .int .i64 0, .int .i64 1, .int .i64 3, .int .i64 0, .int .i64 6, .int .i64 0, .int .i64 10000, .string { data := #[99] }, .string { data := #[69, 85, 82] }, .slice (some ⟨g3, 0, none⟩) 3 3, .slice none 0 0]).setRow (w.heap.size + 1) #[.string { data := #[99] }, .slice none 0 0, .slice none 0 0]) := Below_setRow cw5 (by omega) _
 clear kz2 hr2 hr cw4 cw5
 go_wp2_with (first | (refine wpList_load_row rfl 27 _ rfl _ rfl _ _ _ _ kl Tryz.underlying27 rfl (by kernel_rfl) ?_) | (refine wpList_store_row rfl 27 _ _ rfl _ _ rfl rfl _ _ kz (by kernel_rfl) rfl (by simp [Value.oneCell', denc]) ?_) | (refine wpList_store_row rfl 44 _ _ rfl _ _ rfl rfl _ _ ky2 (by kernel_rfl) rfl (by simp [Value.oneCell', denc]) ?_))
 (try simp only [Exit.inBlock, Exit.then])
 refine bodyPost_ret (results_cc Tryz.results19 _ _ _ _ _ _ _ _ _ _ _ _ rfl kz3 rfl ky3 Tryz.underlying27 rfl (by kernel_rfl) Tryz.underlying44 rfl (by kernel_rfl)) rfl ?_
 exact ⟨_, rfl, ⟨g3, rfl, hr3⟩, cw6⟩
theorem qt_s (g : Nat) (w : World) (h : DuesIn w (some ⟨g, 0, none⟩) smL.ds) (hS : Stp w) : Calls Tryz.prog 10 #[.agg #[.int .i64 1, .int .i64 1000, .int .i64 1, .int .i64 0, .int .i64 0, .int .i64 0, .int .i64 0, .int .i64 0, .int .i64 0, .int .i64 0, .int .i64 0, .int .i64 1, .int .i64 1000, .int .i64 120000, .int .i64 0, .int .i64 1, .int .i64 3, .int .i64 0, .int .i64 6, .int .i64 0, .int .i64 10000, .string { data := #[99] }, .string { data := #[69, 85, 82] }, .slice (some ⟨g, 0, none⟩) 3 3, .slice none 0 0], .int .i64 10] w fun e w' => e = .returned (.tuple #[.int .i64 1020, .int .i64 0]) ∧ Below w.heap.size w w' :=
 (quoteP_any smL (some ⟨g, 0, none⟩) none 3 0 10 w h (by decide) hS).mono fun e w' ⟨he, hb⟩ => by
  rw [sm_qt.1.1, sm_qt.1.2] at he
  exact ⟨he, hb⟩
theorem qt_s2 (g : Nat) (w : World) (h : DuesIn w (some ⟨g, 0, none⟩) smL.ds) (hS : Stp w) : Calls Tryz.prog 10 #[.agg #[.int .i64 1, .int .i64 1000, .int .i64 1, .int .i64 0, .int .i64 0, .int .i64 0, .int .i64 0, .int .i64 0, .int .i64 0, .int .i64 0, .int .i64 0, .int .i64 1, .int .i64 1000, .int .i64 120000, .int .i64 0, .int .i64 1, .int .i64 3, .int .i64 0, .int .i64 6, .int .i64 0, .int .i64 10000, .string { data := #[99] }, .string { data := #[69, 85, 82] }, .slice (some ⟨g, 0, none⟩) 3 3, .slice none 0 0], .int .i64 31] w fun e w' => e = .returned (.tuple #[.int .i64 1024, .int .i64 0]) ∧ Below w.heap.size w w' :=
 (quoteP_any smL (some ⟨g, 0, none⟩) none 3 0 31 w h (by decide) hS).mono fun e w' ⟨he, hb⟩ => by
  rw [sm_qt.2.1, sm_qt.2.2] at he
  exact ⟨he, hb⟩
def FlV (v : Value) (_ : World) : Prop := ∃ (p q : Int) (n dk ck : Nat) (da ca pa : Option Addr) (pc : Nat), v = .tuple #[.agg #[.int .i64 1, .int .i64 1000, .int .i64 2, .int .i64 p, .int .i64 q, .int .i64 0, .int .i64 0, .int .i64 0, .int .i64 0, .int .i64 0, .int .i64 0, .int .i64 1, .int .i64 1000, .int .i64 120000, .int .i64 0, .int .i64 1, .int .i64 3, .int .i64 0, .int .i64 6, .int .i64 0, .int .i64 10000, .string { data := #[99] }, .string { data := #[69, 85, 82] }, .slice da n dk, .slice ca 0 ck], .slice pa 3 pc, .int .i64 0]
theorem fu_s (g : Nat) (w : World) (h : DuesIn w (some ⟨g, 0, none⟩) smL.ds) (hS : Stp w) : Calls Tryz.prog 12 #[.agg #[.int .i64 1, .int .i64 1000, .int .i64 1, .int .i64 0, .int .i64 0, .int .i64 0, .int .i64 0, .int .i64 0, .int .i64 0, .int .i64 0, .int .i64 0, .int .i64 1, .int .i64 1000, .int .i64 120000, .int .i64 0, .int .i64 1, .int .i64 3, .int .i64 0, .int .i64 6, .int .i64 0, .int .i64 10000, .string { data := #[99] }, .string { data := #[69, 85, 82] }, .slice (some ⟨g, 0, none⟩) 3 3, .slice none 0 0], .int .i64 10] w fun e w' => ∃ v, e = .returned v ∧ FlV v w' ∧ Below w.heap.size w w' :=
 (full_any smL (some ⟨g, 0, none⟩) none 3 0 10 w h (fun h => absurd h (by decide)) (by decide) (by decide) hS).mono fun e w' ⟨da, dk, ca, ck, pa, pc, he, _, _, _, hb⟩ => by
  rw [show fuL smL 10 = fuO smL 10 from if_pos sm_fu, show fuP smL 10 = fuQ smL 10 from if_pos sm_fu, sm_fu, sm_fuQ] at he
  exact ⟨_, he, ⟨_, _, _, _, _, _, _, _, _, rfl⟩, hb⟩
def PtV (ds : List Du) (v : Value) (W : World) : Prop := ∃ (da : Option Addr) (dk : Nat) (ca : Option Addr) (ck : Nat) (pa : Option Addr) (pn pc : Nat), v = .tuple #[.agg #[.int .i64 1, .int .i64 1000, .int .i64 1, .int .i64 505, .int .i64 0, .int .i64 0, .int .i64 0, .int .i64 0, .int .i64 0, .int .i64 0, .int .i64 0, .int .i64 1, .int .i64 1000, .int .i64 120000, .int .i64 0, .int .i64 1, .int .i64 3, .int .i64 0, .int .i64 6, .int .i64 0, .int .i64 10000, .string { data := #[99] }, .string { data := #[69, 85, 82] }, .slice da ds.length dk, .slice ca 0 ck], .slice pa pn pc, .int .i64 0] ∧ DuesIn W da ds
theorem pt_s (keep : Int) (ds : List Du) (hk : keep = 1 ∨ keep = 2) (hp : paO smL 510 10 keep = ⟨1, 1000, 1, 505, 0, 0, 0, 0, 0, 0, 0, smT, ds, []⟩) (g : Nat) (w : World) (h : DuesIn w (some ⟨g, 0, none⟩) smL.ds) (hS : Stp w) : Calls Tryz.prog 17 #[.agg #[.int .i64 1, .int .i64 1000, .int .i64 1, .int .i64 0, .int .i64 0, .int .i64 0, .int .i64 0, .int .i64 0, .int .i64 0, .int .i64 0, .int .i64 0, .int .i64 1, .int .i64 1000, .int .i64 120000, .int .i64 0, .int .i64 1, .int .i64 3, .int .i64 0, .int .i64 6, .int .i64 0, .int .i64 10000, .string { data := #[99] }, .string { data := #[69, 85, 82] }, .slice (some ⟨g, 0, none⟩) 3 3, .slice none 0 0], .int .i64 510, .int .i64 10, .int .i64 keep, .agg #[.string { data := #[99] }, .slice none 0 0, .slice none 0 0]] w fun e w' => ∃ v, e = .returned v ∧ PtV ds v w' ∧ Below w.heap.size w w' :=
 (partial_any smL (some ⟨g, 0, none⟩) none 3 0 510 10 keep smc none none 0 0 w h (fun h => absurd h (by decide)) (by decide) (by decide) ⟨⟨by decide, fun h => absurd h (by decide)⟩, ⟨by decide, fun h => absurd h (by decide)⟩, by decide⟩ (by decide) hS).mono fun e w' ⟨da, dk, ca, ck, pa, pc, he, hd, _, _, hb⟩ => by
  rw [show paL smL 510 10 keep smc = _ from (if_pos (sm_pa hk)).trans hp, sm_pa hk] at he
  rw [show paL smL 510 10 keep smc = _ from (if_pos (sm_pa hk)).trans hp] at hd
  exact ⟨_, he, ⟨_, _, _, _, _, _, _, rfl, hd⟩, hb⟩
theorem fe_s (g : Nat) (w : World) (hS : Stp w) : Calls Tryz.prog 8 #[.agg #[.int .i64 1, .int .i64 1000, .int .i64 1, .int .i64 0, .int .i64 0, .int .i64 0, .int .i64 0, .int .i64 0, .int .i64 0, .int .i64 0, .int .i64 0, .int .i64 1, .int .i64 1000, .int .i64 120000, .int .i64 0, .int .i64 1, .int .i64 3, .int .i64 0, .int .i64 6, .int .i64 0, .int .i64 10000, .string { data := #[99] }, .string { data := #[69, 85, 82] }, .slice (some ⟨g, 0, none⟩) 3 3, .slice none 0 0], .int .i64 510] w fun e w' => e = .returned (.tuple #[.int .i64 5, .int .i64 0]) ∧ Below w.heap.size w w' :=
 (fee_any smL (some ⟨g, 0, none⟩) none 3 0 510 w hS (by decide) (by decide)).mono fun e w' ⟨he, hb⟩ => by
  rw [sm_fe.1, sm_fe.2.2.2] at he
  exact ⟨he, hb⟩
set_option maxHeartbeats 32000000 in
theorem live35_any (w : World) (hs : Stp w) : Calls Tryz.prog 7 #[] w fun e w' => e = .returned (.bool true) ∧ Below w.heap.size w w' := by
 go_enter Tryz.func7, Tryz.ntmps7
 have HST := Lib.hid (fun W (hW : Below w.heap.size w W) => hs.of hW)
 have cw : Below w.heap.size w w := Below.refl _ _
 clear hs
 go_wp2_with fail
 refine (small_any _).mono ?_
 rintro e w2 ⟨_, rfl, ⟨g1, rfl, hd⟩, hb⟩
 have cw2 := bl2 hb cw
 clear hb cw
 have ka : Bk.Blk ((w2.alloc (.cells #[.int .i64 0, .int .i64 0, .int .i64 0, .int .i64 0, .int .i64 0, .int .i64 0, .int .i64 0, .int .i64 0, .int .i64 0, .int .i64 0, .int .i64 0, .int .i64 0, .int .i64 0, .int .i64 0, .int .i64 0, .int .i64 0, .int .i64 0, .int .i64 0, .int .i64 0, .int .i64 0, .int .i64 0, .string { data := #[] }, .string { data := #[] }, .slice none 0 0, .slice none 0 0] 27)).alloc (.cells #[.string { data := #[] }, .slice none 0 0, .slice none 0 0] 44)) w2.heap.size _ 27 := Bk.Blk.nw20
 have kb : Bk.Blk ((w2.alloc (.cells #[.int .i64 0, .int .i64 0, .int .i64 0, .int .i64 0, .int .i64 0, .int .i64 0, .int .i64 0, .int .i64 0, .int .i64 0, .int .i64 0, .int .i64 0, .int .i64 0, .int .i64 0, .int .i64 0, .int .i64 0, .int .i64 0, .int .i64 0, .int .i64 0, .int .i64 0, .int .i64 0, .int .i64 0, .string { data := #[] }, .string { data := #[] }, .slice none 0 0, .slice none 0 0] 27)).alloc (.cells #[.string { data := #[] }, .slice none 0 0, .slice none 0 0] 44)) (w2.heap.size + 1) _ 44 := Bk.Blk.nw21
 have kb2 := Blk_setRow_ne kb (g' := w2.heap.size) (cs' := #[.int .i64 1, .int .i64 1000, .int .i64 1, .int .i64 0, .int .i64 0, .int .i64 0, .int .i64 0, .int .i64 0, .int .i64 0, .int .i64 0, .int .i64 0, .int .i64 1, .int .i64 1000, .int .i64 120000, .int .i64 0, .int .i64 1, .int .i64 3, .int .i64 0, .int .i64 6, .int .i64 0, .int .i64 10000, .string { data := #[99] }, .string { data := #[69, 85, 82] }, .slice (some ⟨g1, 0, none⟩) 3 3, .slice none 0 0]) (by omega)
 have hX : Below w2.heap.size w2 ((((w2.alloc (.cells #[.int .i64 0, .int .i64 0, .int .i64 0, .int .i64 0, .int .i64 0, .int .i64 0, .int .i64 0, .int .i64 0, .int .i64 0, .int .i64 0, .int .i64 0, .int .i64 0, .int .i64 0, .int .i64 0, .int .i64 0, .int .i64 0, .int .i64 0, .int .i64 0, .int .i64 0, .int .i64 0, .int .i64 0, .string { data := #[] }, .string { data := #[] }, .slice none 0 0, .slice none 0 0] 27)).alloc (.cells #[.string { data := #[] }, .slice none 0 0, .slice none 0 0] 44)).setRow w2.heap.size #[.int .i64 1, .int .i64 1000, .int .i64 1, .int .i64 0, .int .i64 0, .int .i64 0, .int .i64 0, .int .i64 0, .int .i64 0, .int .i64 0, .int .i64 0, .int .i64 1, .int .i64 1000, .int .i64 120000, .int .i64 0, .int .i64 1, .int .i64 3, .int .i64 0, .int .i64 6, .int .i64 0, .int .i64 10000, .string { data := #[99] }, .string { data := #[69, 85, 82] }, .slice (some ⟨g1, 0, none⟩) 3 3, .slice none 0 0]).setRow (w2.heap.size + 1) #[.string { data := #[99] }, .slice none 0 0, .slice none 0 0]) := Below_setRow (Below_setRow (((Below.refl _ _).alloc (Nat.le_refl _) _).alloc (by simp) _) (Nat.le_refl _) _) (by omega) _
 have k0 : Bk.Blk ((((w2.alloc (.cells #[.int .i64 0, .int .i64 0, .int .i64 0, .int .i64 0, .int .i64 0, .int .i64 0, .int .i64 0, .int .i64 0, .int .i64 0, .int .i64 0, .int .i64 0, .int .i64 0, .int .i64 0, .int .i64 0, .int .i64 0, .int .i64 0, .int .i64 0, .int .i64 0, .int .i64 0, .int .i64 0, .int .i64 0, .string { data := #[] }, .string { data := #[] }, .slice none 0 0, .slice none 0 0] 27)).alloc (.cells #[.string { data := #[] }, .slice none 0 0, .slice none 0 0] 44)).setRow w2.heap.size #[.int .i64 1, .int .i64 1000, .int .i64 1, .int .i64 0, .int .i64 0, .int .i64 0, .int .i64 0, .int .i64 0, .int .i64 0, .int .i64 0, .int .i64 0, .int .i64 1, .int .i64 1000, .int .i64 120000, .int .i64 0, .int .i64 1, .int .i64 3, .int .i64 0, .int .i64 6, .int .i64 0, .int .i64 10000, .string { data := #[99] }, .string { data := #[69, 85, 82] }, .slice (some ⟨g1, 0, none⟩) 3 3, .slice none 0 0]).setRow (w2.heap.size + 1) #[.string { data := #[99] }, .slice none 0 0, .slice none 0 0]) w2.heap.size _ 27 := Blk_setRow_ne (Blk_setRow_same ka) (by omega)
 have kc : Bk.Blk ((((w2.alloc (.cells #[.int .i64 0, .int .i64 0, .int .i64 0, .int .i64 0, .int .i64 0, .int .i64 0, .int .i64 0, .int .i64 0, .int .i64 0, .int .i64 0, .int .i64 0, .int .i64 0, .int .i64 0, .int .i64 0, .int .i64 0, .int .i64 0, .int .i64 0, .int .i64 0, .int .i64 0, .int .i64 0, .int .i64 0, .string { data := #[] }, .string { data := #[] }, .slice none 0 0, .slice none 0 0] 27)).alloc (.cells #[.string { data := #[] }, .slice none 0 0, .slice none 0 0] 44)).setRow w2.heap.size #[.int .i64 1, .int .i64 1000, .int .i64 1, .int .i64 0, .int .i64 0, .int .i64 0, .int .i64 0, .int .i64 0, .int .i64 0, .int .i64 0, .int .i64 0, .int .i64 1, .int .i64 1000, .int .i64 120000, .int .i64 0, .int .i64 1, .int .i64 3, .int .i64 0, .int .i64 6, .int .i64 0, .int .i64 10000, .string { data := #[99] }, .string { data := #[69, 85, 82] }, .slice (some ⟨g1, 0, none⟩) 3 3, .slice none 0 0]).setRow (w2.heap.size + 1) #[.string { data := #[99] }, .slice none 0 0, .slice none 0 0]) (w2.heap.size + 1) _ 44 := Blk_setRow_same kb2
 go_upto_region 2 with (first | (refine wpList_store_row rfl 27 _ _ rfl _ _ rfl rfl _ _ ka (by kernel_rfl) rfl (by simp [Value.oneCell', denc]) ?_) | (refine wpList_store_row rfl 44 _ _ rfl _ _ rfl rfl _ _ kb2 (by kernel_rfl) rfl (by simp [Value.oneCell', denc]) ?_))
 have cw3 := bl2 hX cw2
 replace hd := hd.later hX
 clear hX cw2 ka kb kb2
 generalize ((((w2.alloc (.cells _ 27)).alloc (.cells _ 44)).setRow w2.heap.size _).setRow (w2.heap.size + 1) _) = w3 at *
 generalize w2.heap.size = g2 at *
 go_wp2_with (first | (refine wpList_load_row rfl 27 _ rfl _ rfl _ _ _ _ k0 Tryz.underlying27 rfl (by kernel_rfl) ?_) | (refine wpList_load_row rfl 44 _ rfl _ rfl _ _ _ _ kc Tryz.underlying44 rfl (by kernel_rfl) ?_))
 refine (qt_s g1 _ hd (HST.out _ cw3)).mono ?_
 rintro e w4 ⟨rfl, hb⟩
 have cw4 := bl2 hb cw3
 replace k0 := k0.later hb
 replace kc := kc.later hb
 replace hd := hd.later hb
 clear hb cw3
 go_upto_region 3 with fail
 go_wp2_with (first | (refine wpList_load_row rfl 27 _ rfl _ rfl _ _ _ _ k0 Tryz.underlying27 rfl (by kernel_rfl) ?_) | (refine wpList_load_row rfl 44 _ rfl _ rfl _ _ _ _ kc Tryz.underlying44 rfl (by kernel_rfl) ?_))
 refine (qt_s2 g1 _ hd (HST.out _ cw4)).mono ?_
 rintro e w5 ⟨rfl, hb⟩
 have cw5 := bl2 hb cw4
 replace k0 := k0.later hb
 replace kc := kc.later hb
 replace hd := hd.later hb
 clear hb cw4
 go_upto_region 4 with fail
 go_wp2_with (first | (refine wpList_load_row rfl 27 _ rfl _ rfl _ _ _ _ k0 Tryz.underlying27 rfl (by kernel_rfl) ?_) | (refine wpList_load_row rfl 44 _ rfl _ rfl _ _ _ _ kc Tryz.underlying44 rfl (by kernel_rfl) ?_))
 refine (fu_s g1 _ hd (HST.out _ cw5)).mono ?_
 rintro e w6 ⟨_, rfl, ⟨p, q, n, dk, ck, da, ca, pa, pc, rfl⟩, hb⟩
 have cw6 := bl2 hb cw5
 replace k0 := k0.later hb
 replace kc := kc.later hb
 replace hd := hd.later hb
 clear hb cw5
 go_upto_region 5 with (refine wpList_store_row rfl 27 _ _ rfl _ _ rfl rfl _ _ Bk.Blk.nw10 (by kernel_rfl) rfl (by simp [Value.oneCell', denc]) ?_)
 have hX : Below w6.heap.size w6 ((w6.alloc (.cells #[.int .i64 0, .int .i64 0, .int .i64 0, .int .i64 0, .int .i64 0, .int .i64 0, .int .i64 0, .int .i64 0, .int .i64 0, .int .i64 0, .int .i64 0, .int .i64 0, .int .i64 0, .int .i64 0, .int .i64 0, .int .i64 0, .int .i64 0, .int .i64 0, .int .i64 0, .int .i64 0, .int .i64 0, .string { data := #[] }, .string { data := #[] }, .slice none 0 0, .slice none 0 0] 27)).setRow w6.heap.size #[.int .i64 1, .int .i64 1000, .int .i64 2, .int .i64 p, .int .i64 q, .int .i64 0, .int .i64 0, .int .i64 0, .int .i64 0, .int .i64 0, .int .i64 0, .int .i64 1, .int .i64 1000, .int .i64 120000, .int .i64 0, .int .i64 1, .int .i64 3, .int .i64 0, .int .i64 6, .int .i64 0, .int .i64 10000, .string { data := #[99] }, .string { data := #[69, 85, 82] }, .slice da n dk, .slice ca 0 ck]) := Below_setRow ((Below.refl _ _).alloc (Nat.le_refl _) _) (Nat.le_refl _) _
 have k5 : Bk.Blk ((w6.alloc (.cells #[.int .i64 0, .int .i64 0, .int .i64 0, .int .i64 0, .int .i64 0, .int .i64 0, .int .i64 0, .int .i64 0, .int .i64 0, .int .i64 0, .int .i64 0, .int .i64 0, .int .i64 0, .int .i64 0, .int .i64 0, .int .i64 0, .int .i64 0, .int .i64 0, .int .i64 0, .int .i64 0, .int .i64 0, .string { data := #[] }, .string { data := #[] }, .slice none 0 0, .slice none 0 0] 27)).setRow w6.heap.size #[.int .i64 1, .int .i64 1000, .int .i64 2, .int .i64 p, .int .i64 q, .int .i64 0, .int .i64 0, .int .i64 0, .int .i64 0, .int .i64 0, .int .i64 0, .int .i64 1, .int .i64 1000, .int .i64 120000, .int .i64 0, .int .i64 1, .int .i64 3, .int .i64 0, .int .i64 6, .int .i64 0, .int .i64 10000, .string { data := #[99] }, .string { data := #[69, 85, 82] }, .slice da n dk, .slice ca 0 ck]) w6.heap.size _ 27 := Blk_setRow_same Bk.Blk.nw10
 have cw7 := bl2 hX cw6
 replace k0 := k0.later hX
 replace kc := kc.later hX
 replace hd := hd.later hX
 clear hX cw6
 generalize ((w6.alloc (.cells _ 27)).setRow w6.heap.size _) = w7 at *
 generalize w6.heap.size = gb5 at *
 go_wp2_with (first | (refine wpList_load_row rfl 27 _ rfl _ rfl _ _ _ _ k0 Tryz.underlying27 rfl (by kernel_rfl) ?_) | (refine wpList_load_row rfl 44 _ rfl _ rfl _ _ _ _ kc Tryz.underlying44 rfl (by kernel_rfl) ?_))
 refine (pt_s 1 sm1 (.inl rfl) sm_paL1 g1 _ hd (HST.out _ cw7)).mono ?_
 rintro e w8 ⟨_, rfl, ⟨da1, dk1, ca1, ck1, pa1, pn1, pc1, rfl, hd1⟩, hb⟩
 have cw8 := bl2 hb cw7
 replace k0 := k0.later hb
 replace kc := kc.later hb
 replace hd := hd.later hb
 replace k5 := k5.later hb
 clear hb cw7
 rw [show sm1.length = 4 from rfl]
 go_upto_region 6 with (refine wpList_store_row rfl 27 _ _ rfl _ _ rfl rfl _ _ Bk.Blk.nw10 (by kernel_rfl) rfl (by simp [Value.oneCell', denc]) ?_)
 have hX : Below w8.heap.size w8 ((w8.alloc (.cells #[.int .i64 0, .int .i64 0, .int .i64 0, .int .i64 0, .int .i64 0, .int .i64 0, .int .i64 0, .int .i64 0, .int .i64 0, .int .i64 0, .int .i64 0, .int .i64 0, .int .i64 0, .int .i64 0, .int .i64 0, .int .i64 0, .int .i64 0, .int .i64 0, .int .i64 0, .int .i64 0, .int .i64 0, .string { data := #[] }, .string { data := #[] }, .slice none 0 0, .slice none 0 0] 27)).setRow w8.heap.size #[.int .i64 1, .int .i64 1000, .int .i64 1, .int .i64 505, .int .i64 0, .int .i64 0, .int .i64 0, .int .i64 0, .int .i64 0, .int .i64 0, .int .i64 0, .int .i64 1, .int .i64 1000, .int .i64 120000, .int .i64 0, .int .i64 1, .int .i64 3, .int .i64 0, .int .i64 6, .int .i64 0, .int .i64 10000, .string { data := #[99] }, .string { data := #[69, 85, 82] }, .slice da1 4 dk1, .slice ca1 0 ck1]) := Below_setRow ((Below.refl _ _).alloc (Nat.le_refl _) _) (Nat.le_refl _) _
 have k6 : Bk.Blk ((w8.alloc (.cells #[.int .i64 0, .int .i64 0, .int .i64 0, .int .i64 0, .int .i64 0, .int .i64 0, .int .i64 0, .int .i64 0, .int .i64 0, .int .i64 0, .int .i64 0, .int .i64 0, .int .i64 0, .int .i64 0, .int .i64 0, .int .i64 0, .int .i64 0, .int .i64 0, .int .i64 0, .int .i64 0, .int .i64 0, .string { data := #[] }, .string { data := #[] }, .slice none 0 0, .slice none 0 0] 27)).setRow w8.heap.size #[.int .i64 1, .int .i64 1000, .int .i64 1, .int .i64 505, .int .i64 0, .int .i64 0, .int .i64 0, .int .i64 0, .int .i64 0, .int .i64 0, .int .i64 0, .int .i64 1, .int .i64 1000, .int .i64 120000, .int .i64 0, .int .i64 1, .int .i64 3, .int .i64 0, .int .i64 6, .int .i64 0, .int .i64 10000, .string { data := #[99] }, .string { data := #[69, 85, 82] }, .slice da1 4 dk1, .slice ca1 0 ck1]) w8.heap.size _ 27 := Blk_setRow_same Bk.Blk.nw10
 have cw9 := bl2 hX cw8
 replace k0 := k0.later hX
 replace kc := kc.later hX
 replace hd := hd.later hX
 replace k5 := k5.later hX
 replace hd1 := hd1.later hX
 clear hX cw8
 generalize ((w8.alloc (.cells _ 27)).setRow w8.heap.size _) = w9 at *
 generalize w8.heap.size = gb6 at *
 go_wp2_with (first | (refine wpList_load_row rfl 27 _ rfl _ rfl _ _ _ _ k0 Tryz.underlying27 rfl (by kernel_rfl) ?_) | (refine wpList_load_row rfl 44 _ rfl _ rfl _ _ _ _ kc Tryz.underlying44 rfl (by kernel_rfl) ?_))
 refine (pt_s 2 sm2 (.inr rfl) sm_paL2 g1 _ hd (HST.out _ cw9)).mono ?_
 rintro e w10 ⟨_, rfl, ⟨da2, dk2, ca2, ck2, pa2, pn2, pc2, rfl, hd2⟩, hb⟩
 have cw10 := bl2 hb cw9
 replace k0 := k0.later hb
 replace kc := kc.later hb
 replace hd := hd.later hb
 replace k5 := k5.later hb
 replace k6 := k6.later hb
 replace hd1 := hd1.later hb
 clear hb cw9
 rw [show sm2.length = 3 from rfl]
 go_upto_region 7 with (refine wpList_store_row rfl 27 _ _ rfl _ _ rfl rfl _ _ Bk.Blk.nw10 (by kernel_rfl) rfl (by simp [Value.oneCell', denc]) ?_)
 have hX : Below w10.heap.size w10 ((w10.alloc (.cells #[.int .i64 0, .int .i64 0, .int .i64 0, .int .i64 0, .int .i64 0, .int .i64 0, .int .i64 0, .int .i64 0, .int .i64 0, .int .i64 0, .int .i64 0, .int .i64 0, .int .i64 0, .int .i64 0, .int .i64 0, .int .i64 0, .int .i64 0, .int .i64 0, .int .i64 0, .int .i64 0, .int .i64 0, .string { data := #[] }, .string { data := #[] }, .slice none 0 0, .slice none 0 0] 27)).setRow w10.heap.size #[.int .i64 1, .int .i64 1000, .int .i64 1, .int .i64 505, .int .i64 0, .int .i64 0, .int .i64 0, .int .i64 0, .int .i64 0, .int .i64 0, .int .i64 0, .int .i64 1, .int .i64 1000, .int .i64 120000, .int .i64 0, .int .i64 1, .int .i64 3, .int .i64 0, .int .i64 6, .int .i64 0, .int .i64 10000, .string { data := #[99] }, .string { data := #[69, 85, 82] }, .slice da2 3 dk2, .slice ca2 0 ck2]) := Below_setRow ((Below.refl _ _).alloc (Nat.le_refl _) _) (Nat.le_refl _) _
 have k7 : Bk.Blk ((w10.alloc (.cells #[.int .i64 0, .int .i64 0, .int .i64 0, .int .i64 0, .int .i64 0, .int .i64 0, .int .i64 0, .int .i64 0, .int .i64 0, .int .i64 0, .int .i64 0, .int .i64 0, .int .i64 0, .int .i64 0, .int .i64 0, .int .i64 0, .int .i64 0, .int .i64 0, .int .i64 0, .int .i64 0, .int .i64 0, .string { data := #[] }, .string { data := #[] }, .slice none 0 0, .slice none 0 0] 27)).setRow w10.heap.size #[.int .i64 1, .int .i64 1000, .int .i64 1, .int .i64 505, .int .i64 0, .int .i64 0, .int .i64 0, .int .i64 0, .int .i64 0, .int .i64 0, .int .i64 0, .int .i64 1, .int .i64 1000, .int .i64 120000, .int .i64 0, .int .i64 1, .int .i64 3, .int .i64 0, .int .i64 6, .int .i64 0, .int .i64 10000, .string { data := #[99] }, .string { data := #[69, 85, 82] }, .slice da2 3 dk2, .slice ca2 0 ck2]) w10.heap.size _ 27 := Blk_setRow_same Bk.Blk.nw10
 have cw11 := bl2 hX cw10
 replace k0 := k0.later hX
 replace kc := kc.later hX
 replace hd := hd.later hX
 replace k5 := k5.later hX
 replace k6 := k6.later hX
 replace hd1 := hd1.later hX
 replace hd2 := hd2.later hX
 clear hX cw10
 generalize ((w10.alloc (.cells _ 27)).setRow w10.heap.size _) = w11 at *
 generalize w10.heap.size = gb7 at *
 go_wp2_with (first | (refine wpList_load_row rfl 27 _ rfl _ rfl _ _ _ _ k0 Tryz.underlying27 rfl (by kernel_rfl) ?_) | (refine wpList_load_row rfl 44 _ rfl _ rfl _ _ _ _ kc Tryz.underlying44 rfl (by kernel_rfl) ?_))
 refine (fe_s g1 _ (HST.out _ cw11)).mono ?_
 rintro e w12 ⟨rfl, hb⟩
 have cw12 := bl2 hb cw11
 replace k0 := k0.later hb
 replace kc := kc.later hb
 replace hd := hd.later hb
 replace k5 := k5.later hb
 replace k6 := k6.later hb
 replace hd1 := hd1.later hb
 replace k7 := k7.later hb
 replace hd2 := hd2.later hb
 clear hb cw11
 clear hd k0 kc
 obtain ⟨b1, o1, rfl, hc1⟩ := hd1.row.mid denc_len (by decide)
 have m1 : w12.rangeAt b1 (o1 + 1 * 4) [.int .i64 2, .int .i64 31, .int .i64 164, .int .i64 5] := hc1 1 (by decide)
 have q1 : w12.cell? ⟨b1, o1 + 12 + 2, none⟩ = some (.int .i64 165) := hc1 3 (by decide) 2 (.int .i64 165) rfl
 obtain ⟨b2, o2, rfl, hc2⟩ := hd2.row.mid denc_len (by decide)
 have m2 : w12.rangeAt b2 (o2 + 2 * 4) [.int .i64 3, .int .i64 60, .int .i64 160, .int .i64 2] := hc2 2 (by decide)
 clear hc1 hc2 hd1 hd2
 have q3 := k6.c23
 have q4 := k7.c23
 have q5 := k5.c2
 have q6 := k6.c3
 clear k5 k6 k7
 go_wp2_with (first | (refine load_guarded_mid 53 _ rfl rfl b1 (o1 + 1 * 4) rfl [.int .i64 2, .int .i64 31, .int .i64 164, .int .i64 5] _ m1 Tryz.underlying53 rfl (by kernel_rfl) ?_) | (refine load_guarded_mid 53 _ rfl rfl b2 (o2 + 2 * 4) rfl [.int .i64 3, .int .i64 60, .int .i64 160, .int .i64 2] _ m2 Tryz.underlying53 rfl (by kernel_rfl) ?_))
 go_ret
 exact ⟨rfl, cw12⟩
end Go.Proofs.YtaanicginfjgdaaGreatDoor.Pp

namespace Go.Proofs.YtaanicginfjgdaaGreatDoor.Pp
open Go Go.RowKit
open Go.Proofs.YtaanicginfjgdaaGreatDoor
open Go.Proofs.YtaanicginfjgdaaGreatDoor.Ln (Tm Ch Du Lo Pa sum prs its P I due chk Ok ok_iff wrap_in wrap_add powed zLo LoIn DuesIn RowIn OwnR denc denc_len cenc cenc_len penc penc_len tenc flat flat_len Dok dues_of_row bl2 SB SB.mono SQ SQ.mono take_at one_at two_at call_at call_wp call_one call_pv value_wp yields_load_row Blk_setRow_same Blk_setRow_ne Below_setRow dues_setRow row_row one25 load_guarded results2_cell dues_lt rowc_lt rangeAt_later tk ts z0 z1 z3 z4 z5)
open Go.Proofs.YtaanicginfjgdaaGreatDoor.Rd (gd pcV pcE Stp)
open Go.Proofs.YtaanicginfjgdaaGreatDoor.Kl (Cl CalIn skE)
set_option linter.unusedSimpArgs false
set_option linter.unusedVariables false
set_option maxRecDepth 100000

def GrO (l : Lo) (w : World) (e : Ending) (w' : World) : Prop := ∃ b : Bool, e = .returned (.bool b) ∧ (b = false → l.ds.length ≤ 260 ∧ l.cs.length ≤ 70 ∧ l.tm.cur.size ≤ 100) ∧ Below w.heap.size w w'
theorem gro_yes {l : Lo} {w w' : World} {v : Value} (hv : v = .bool true) (hb : Below w.heap.size w w') : GrO l w (.returned v) w' := ⟨true, by rw [hv], (fun e => absurd e (by decide)), hb⟩
theorem gro_no {l : Lo} {w w' : World} {v : Value} (hv : v = .bool false) (h : l.ds.length ≤ 260 ∧ l.cs.length ≤ 70 ∧ l.tm.cur.size ≤ 100) (hb : Below w.heap.size w w') : GrO l w (.returned v) w' := ⟨false, by rw [hv], fun _ => h, hb⟩
def BrO (w : World) (e : Ending) (w' : World) : Prop := ∃ b : Bool, e = .returned (.bool b) ∧ Below w.heap.size w w'
theorem bro {w w' : World} {v : Value} (b : Bool) (hv : v = .bool b) (hb : Below w.heap.size w w') : BrO w (.returned v) w' := ⟨b, by rw [hv], hb⟩
def GrR (w1 : World) (n : Nat) (g : Nat) (s3 : Value) (W : World) : Prop := ∃ i : Nat, i + g = n ∧ s3 = .int .i64 i ∧ w1 = W
set_option maxHeartbeats 8000000 in
theorem great35_any (l : Lo) (da ca : Option Addr) (dk ck : Nat) (w : World) (h : RowIn cenc w ca l.cs) : Calls Tryz.prog 6 #[(.agg #[.int .i64 (l).id, .int .i64 (l).ac, .int .i64 (l).st, .int .i64 (l).pp, .int .i64 (l).pi, .int .i64 (l).fee, .int .i64 (l).pen, .int .i64 (l).chg, .int .i64 (l).prov, .int .i64 (l).loss, .int .i64 (l).rcv, .int .i64 ((l).tm).me, .int .i64 ((l).tm).pr, .int .i64 ((l).tm).ppm, .int .i64 ((l).tm).stt, .int .i64 ((l).tm).ev, .int .i64 ((l).tm).ct, .int .i64 ((l).tm).ba, .int .i64 ((l).tm).mo, .int .i64 ((l).tm).pen, .int .i64 ((l).tm).fe, .string ((l).tm).cal, .string ((l).tm).cur, .slice da (l).ds.length dk, .slice ca (l).cs.length ck])] w (GrO l w) := by
 have cw : Below w.heap.size w (w.alloc (.cells #[.int .i64 (l).id, .int .i64 (l).ac, .int .i64 (l).st, .int .i64 (l).pp, .int .i64 (l).pi, .int .i64 (l).fee, .int .i64 (l).pen, .int .i64 (l).chg, .int .i64 (l).prov, .int .i64 (l).loss, .int .i64 (l).rcv, .int .i64 ((l).tm).me, .int .i64 ((l).tm).pr, .int .i64 ((l).tm).ppm, .int .i64 ((l).tm).stt, .int .i64 ((l).tm).ev, .int .i64 ((l).tm).ct, .int .i64 ((l).tm).ba, .int .i64 ((l).tm).mo, .int .i64 ((l).tm).pen, .int .i64 ((l).tm).fe, .string ((l).tm).cal, .string ((l).tm).cur, .slice da (l).ds.length dk, .slice ca (l).cs.length ck] 27)) := (Below.refl _ _).alloc (Nat.le_refl _) _
 have k0 : Bk.Blk (w.alloc (.cells #[.int .i64 (l).id, .int .i64 (l).ac, .int .i64 (l).st, .int .i64 (l).pp, .int .i64 (l).pi, .int .i64 (l).fee, .int .i64 (l).pen, .int .i64 (l).chg, .int .i64 (l).prov, .int .i64 (l).loss, .int .i64 (l).rcv, .int .i64 ((l).tm).me, .int .i64 ((l).tm).pr, .int .i64 ((l).tm).ppm, .int .i64 ((l).tm).stt, .int .i64 ((l).tm).ev, .int .i64 ((l).tm).ct, .int .i64 ((l).tm).ba, .int .i64 ((l).tm).mo, .int .i64 ((l).tm).pen, .int .i64 ((l).tm).fe, .string ((l).tm).cal, .string ((l).tm).cur, .slice da (l).ds.length dk, .slice ca (l).cs.length ck] 27)) w.heap.size _ 27 := Bk.Blk.nw10
 have HC := Lib.hid (h.later cw)
 clear h
 have l21 := k0.c21
 have l22 := k0.c22
 have l23 := k0.c23
 have l24 := k0.c24
 go_enter Tryz.func6, Tryz.ntmps6
 go_upto_region 1 with fail
 generalize (w.alloc (.cells _ 27)) = w1 at *
 by_cases h1 : 260 < l.ds.length
 ·go_wp2_with fail
  go_ret
  exact gro_yes (by first | rfl | (simp; done)) cw
 ·by_cases h2 : 70 < l.cs.length
  ·go_wp2_with fail
   go_ret
   exact gro_yes (by first | rfl | (simp; done)) cw
  ·by_cases h3 : 100 < l.tm.cal.size
   ·go_wp2_with fail
    go_ret
    exact gro_yes (by first | rfl | (simp; done)) cw
   ·by_cases h4 : 100 < l.tm.cur.size
    ·go_wp2_with fail
     go_ret
     exact gro_yes (by first | rfl | (simp; done)) cw
    ·have HF := Lib.hid (show l.ds.length ≤ 260 ∧ l.cs.length ≤ 70 ∧ l.tm.cur.size ≤ 100 from ⟨by omega, by omega, by omega⟩)
     go_upto_region 4 with fail
     go_loopg [3] l.cs.length (GrR w1 l.cs.length)
     case atStart => exact ⟨0, by omega, rfl, rfl⟩
     case round =>
      obtain ⟨i, hi, rfl, rfl⟩ := hrel
      by_cases hlt : i < l.cs.length
      ·obtain ⟨b, off, rfl, hc⟩ := HC.out.mid cenc_len (by omega)
       have q12 : w1.cell? ⟨b, off + i * 14 + 12, none⟩ = some (.string (l.cs[i]!).old.cal) := hc i hlt 12 _ rfl
       have q13 : w1.cell? ⟨b, off + i * 14 + 13, none⟩ = some (.string (l.cs[i]!).old.cur) := hc i hlt 13 _ rfl
       clear hc
       generalize l.cs[i]! = d at *
       by_cases h5 : 100 < d.old.cal.size
       ·go_wp2_with fail
        go_ret
        exact gro_yes (by first | rfl | (simp; done)) cw
       ·by_cases h6 : 100 < d.old.cur.size
        ·go_wp2_with fail
         go_ret
         exact gro_yes (by first | rfl | (simp; done)) cw
        ·go_wp2_with fail
         go_roundg (gk - 1)
         case measure => omega
         case rel => exact ⟨i + 1, by omega, by go_num, rfl⟩
      ·go_wp2_with fail
       go_ret
       exact gro_no rfl HF.out cw
def totW (ps : List Pa) : Int := wrap64 (tot ps)
def ToR (w : World) (ps : List Pa) (g : Nat) (s3 s4 : Value) (W : World) : Prop := ∃ i : Nat, i + g = ps.length ∧ s4 = .int .i64 i ∧ s3 = .int .i64 (totW (ps.take i)) ∧ w = W
set_option maxHeartbeats 4000000 in
theorem broad_any (c : Cl) (wa ha : Option Addr) (wc hc : Nat) (w : World) : Calls Tryz.prog 16 #[(.agg #[.string (c).nm, .slice wa (c).wk.length wc, .slice ha (c).hol.length hc])] w (BrO w) := by
 have cw : Below w.heap.size w (w.alloc (.cells #[.string c.nm, .slice wa c.wk.length wc, .slice ha c.hol.length hc] 44)) := (Below.refl _ _).alloc (Nat.le_refl _) _
 have k0 : Bk.Blk (w.alloc (.cells #[.string c.nm, .slice wa c.wk.length wc, .slice ha c.hol.length hc] 44)) w.heap.size _ 44 := Bk.Blk.nw10
 have l0 := k0.c0
 have l1 := k0.c1
 have l2 := k0.c2
 go_enter Tryz.func16, Tryz.ntmps16
 go_upto_region 1 with fail
 generalize (w.alloc (.cells _ 44)) = w1 at *
 by_cases h1 : 100 < c.nm.size
 ·go_wp2_with fail
  go_ret
  exact bro true (by first | rfl | (simp; done) | (simp; omega)) cw
 ·by_cases h2 : 20 < c.wk.length
  ·go_wp2_with fail
   go_ret
   exact bro true (by first | rfl | (simp; done) | (simp; omega)) cw
  ·by_cases h3 : 100 < c.hol.length
   ·go_wp2_with fail
    go_ret
    exact bro true (by first | rfl | (simp; done) | (simp; omega)) cw
   ·go_wp2_with fail
    go_ret
    exact bro false (by first | rfl | (simp; done) | (simp; omega)) cw
end Go.Proofs.YtaanicginfjgdaaGreatDoor.Pp
