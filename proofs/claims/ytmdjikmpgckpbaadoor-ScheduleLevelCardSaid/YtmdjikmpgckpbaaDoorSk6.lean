/-
  Schedules: the examples that every statement of this chapter requires: they hold.
-/
import Derived.Test.YtmdjikmpgckpbaaDoorSk4
import Derived.Test.YtmdjikmpgckpbaaDoorSk5
import Derived.Test.YtmdjikmpgckpbaaDoorSm5
import Derived.Test.YtmdjikmpgckpbaaDoorLc
namespace Go.Proofs.YtmdjikmpgckpbaaDoor.Kl
open Go Go.RowKit
open Go.Proofs.YtmdjikmpgckpbaaDoor
open Go.Proofs.YtmdjikmpgckpbaaDoor.Ln (Tm Du DuesIn RowIn flat denc dues_of_row SQ SQ.mono take_at one_at call_at value_wp yields_load_row call_one call_pv Blk_setRow_same Below_setRow)
set_option linter.unusedSimpArgs false
set_option linter.unusedVariables false
set_option maxRecDepth 100000

theorem row_of_cells {α : Type} {enc : α → List Value} {W : World} {g : Nat} {t : TypeId} {xs : List α} (h : Bk.Blk W g (flat enc xs).toArray t) : RowIn enc W (some ⟨g, 0, none⟩) xs := fun _ =>
  ⟨g, 0, rfl, fun j u hj => by rw [Nat.zero_add, h.cell]; simpa using hj⟩
theorem one3 : (#[.string { data := #[104, 111, 109, 101] }, .slice none 0 0, .slice none 0 0] : Array Value).toList.all (·.oneCell') = true := by kernel_rfl
set_option maxHeartbeats 4000000 in
theorem terms_any (m : Int) (w : World) : Calls Tryd.prog 25 #[.int .i64 m] w fun e w' => e = .returned (.agg #[.int .i64 m, .int .i64 1000, .int .i64 120000, .int .i64 30, .int .i64 1, .int .i64 3, .int .i64 0, .int .i64 6, .int .i64 0, .int .i64 0, .string { data := #[104, 111, 109, 101] }, .string { data := #[69, 85, 82] }]) ∧ Below w.heap.size w w' := by
  have b2 : Below w.heap.size w ((w.alloc (.cells #[.int .i64 0, .int .i64 0, .int .i64 0, .int .i64 0, .int .i64 0, .int .i64 0, .int .i64 0, .int .i64 0, .int .i64 0, .int .i64 0, .string { data := #[] }, .string { data := #[] }] 23)).setRow w.heap.size #[.int .i64 m, .int .i64 1000, .int .i64 120000, .int .i64 30, .int .i64 1, .int .i64 3, .int .i64 0, .int .i64 6, .int .i64 0, .int .i64 0, .string { data := #[104, 111, 109, 101] }, .string { data := #[69, 85, 82] }]) := Below_setRow ((Below.refl _ _).alloc (Nat.le_refl _) _) (Nat.le_refl _) _
  have hz := (Bk.Blk.nw10 (W := w) (cs := #[.int .i64 0, .int .i64 0, .int .i64 0, .int .i64 0, .int .i64 0, .int .i64 0, .int .i64 0, .int .i64 0, .int .i64 0, .int .i64 0, .string { data := #[] }, .string { data := #[] }]) (t := 23))
  go_enter Tryd.func25, Tryd.ntmps25
  go_wp2_with (refine wpList_store_row rfl 23 _ _ rfl _ _ rfl rfl _ _ hz (by kernel_rfl) rfl (by simp [Value.oneCell']) ?_)
  refine bodyPost_ret (results_cell_row Tryd.results25 _ _ _ _ _ _ _ rfl (Blk_setRow_same hz) Tryd.underlying23 rfl (by kernel_rfl)) rfl ?_
  exact ⟨rfl, b2⟩
/-- Installments that a call has returned. -/
def BV (ls : List Du) (v : Value) (W : World) : Prop := ∃ a cap, v = .tuple #[.slice a 3 cap, .int .i64 0] ∧ DuesIn W a ls
theorem build_1 (w : World) (hS : Rd.Stp w) : Calls Tryd.prog 16 #[.agg #[.int .i64 1, .int .i64 1000, .int .i64 120000, .int .i64 30, .int .i64 1, .int .i64 3, .int .i64 0, .int .i64 6, .int .i64 0, .int .i64 0, .string { data := #[104, 111, 109, 101] }, .string { data := #[69, 85, 82] }], .agg #[.string { data := #[104, 111, 109, 101] }, .slice none 0 0, .slice none 0 0]] w fun e w' => ∃ v, e = .returned v ∧ BV l10 v w' ∧ Below w.heap.size w w' :=
  (build_any (tm0 1) cl0 none none 0 0 w ⟨⟨by decide, fun h => absurd h (by decide)⟩, ⟨by decide, fun h => absurd h (by decide)⟩, by decide⟩ (by decide) hS).mono fun e w' ⟨a, cap, he, hd, _, hb⟩ => by
    rw [bl1_eq] at hd he
    rw [bl1_ok] at he
    exact ⟨_, he, ⟨a, cap, rfl, hd⟩, hb⟩
theorem build_2 (w : World) (hS : Rd.Stp w) : Calls Tryd.prog 16 #[.agg #[.int .i64 2, .int .i64 1000, .int .i64 120000, .int .i64 30, .int .i64 1, .int .i64 3, .int .i64 0, .int .i64 6, .int .i64 0, .int .i64 0, .string { data := #[104, 111, 109, 101] }, .string { data := #[69, 85, 82] }], .agg #[.string { data := #[104, 111, 109, 101] }, .slice none 0 0, .slice none 0 0]] w fun e w' => ∃ v, e = .returned v ∧ BV l20 v w' ∧ Below w.heap.size w w' :=
  (build_any (tm0 2) cl0 none none 0 0 w ⟨⟨by decide, fun h => absurd h (by decide)⟩, ⟨by decide, fun h => absurd h (by decide)⟩, by decide⟩ (by decide) hS).mono fun e w' ⟨a, cap, he, hd, _, hb⟩ => by
    rw [bl2_eq] at hd he
    rw [bl2_ok] at he
    exact ⟨_, he, ⟨a, cap, rfl, hd⟩, hb⟩
theorem check_5 (w : World) : Calls Tryd.prog 10 #[.agg #[.int .i64 5, .int .i64 1000, .int .i64 120000, .int .i64 30, .int .i64 1, .int .i64 3, .int .i64 0, .int .i64 6, .int .i64 0, .int .i64 0, .string { data := #[104, 111, 109, 101] }, .string { data := #[69, 85, 82] }], .agg #[.string { data := #[104, 111, 109, 101] }, .slice none 0 0, .slice none 0 0]] w fun e w' => e = .returned (.int .i64 1) ∧ Below w.heap.size w w' :=
  (skchk_any (tm0 5) cl0 none none 0 0 w ⟨⟨by decide, fun h => absurd h (by decide)⟩, ⟨by decide, fun h => absurd h (by decide)⟩, by decide⟩ (by decide)).mono fun e w' ⟨he, hb⟩ => by
    rw [sk5] at he
    exact ⟨he, hb⟩
theorem total_1 (a : Option Addr) (cap : Nat) (w : World) (h : DuesIn w a l10) : Calls Tryd.prog 19 #[.slice a 3 cap] w fun e w' => e = .returned (.tuple #[.int .i64 1000, .int .i64 20]) ∧ Below w.heap.size w w' :=
  (stotal_any a cap l10 w h).mono fun e w' ⟨he, hb⟩ => by
    rw [tot10.1, tot10.2] at he
    exact ⟨he, hb⟩
theorem rest_1 (a : Option Addr) (cap : Nat) (w : World) (h : DuesIn w a l10) : Calls Tryd.prog 21 #[.agg #[.int .i64 1, .int .i64 1000, .int .i64 120000, .int .i64 30, .int .i64 1, .int .i64 3, .int .i64 0, .int .i64 6, .int .i64 0, .int .i64 0, .string { data := #[104, 111, 109, 101] }, .string { data := #[69, 85, 82] }], .slice a 3 cap, .int .i64 1] w fun e w' => e = .returned (.int .i64 670) ∧ Below w.heap.size w w' :=
  (srest_any (tm0 1) a cap l10 1 w h (by kernel_rfl)).mono fun e w' ⟨he, hb⟩ => by
    rw [show rsW (tm0 1).pr l10 1 = 670 from rs10] at he
    exact ⟨he, hb⟩
def UV (v : Value) (_ : World) : Prop := ∃ a cap, v = .slice a 2 cap
theorem until_1 (a : Option Addr) (cap : Nat) (w : World) (h : DuesIn w a l10) : Calls Tryd.prog 23 #[.slice a 3 cap, .int .i64 90] w fun e w' => ∃ v, e = .returned v ∧ UV v w' ∧ Below w.heap.size w w' :=
  (suntil_any a cap l10 90 w h (by decide)).mono fun e w' ⟨b, c, he, _, hb⟩ => by
    rw [un10] at he
    exact ⟨_, he, ⟨b, c, rfl⟩, hb⟩
theorem same_1 (a b : Option Addr) (cap cap2 : Nat) (w : World) (h : DuesIn w a l10) (h2 : DuesIn w b l10) : Calls Tryd.prog 18 #[.slice a 3 cap, .slice b 3 cap2] w fun e w' => e = .returned (.bool true) ∧ Below w.heap.size w w' :=
  rsame_any a b cap cap2 l10 w h h2
set_option maxHeartbeats 16000000 in
theorem lives_any (w : World) (hs : Rd.Stp w) : Calls Tryd.prog 9 #[] w fun e w' => e = .returned (.bool true) ∧ Below w.heap.size w w' := by
  go_enter Tryd.func9, Tryd.ntmps9
  go_upto_region 2 with (refine wpList_store_row rfl 26 _ _ rfl _ _ rfl rfl _ _ Bk.Blk.nw10 (by kernel_rfl) rfl (by simp [Value.oneCell']) ?_)
  have cw1 : Below w.heap.size w ((w.alloc (.cells #[.string { data := #[] }, .slice none 0 0, .slice none 0 0] 26)).setRow w.heap.size #[.string { data := #[104, 111, 109, 101] }, .slice none 0 0, .slice none 0 0]) := Below_setRow ((Below.refl _ _).alloc (Nat.le_refl _) _) (Nat.le_refl _) _
  have k0 : Bk.Blk ((w.alloc (.cells #[.string { data := #[] }, .slice none 0 0, .slice none 0 0] 26)).setRow w.heap.size #[.string { data := #[104, 111, 109, 101] }, .slice none 0 0, .slice none 0 0]) w.heap.size #[.string { data := #[104, 111, 109, 101] }, .slice none 0 0, .slice none 0 0] 26 := Blk_setRow_same Bk.Blk.nw10
  have hP := hs.of cw1
  clear hs
  generalize ((w.alloc (.cells #[.string { data := #[] }, .slice none 0 0, .slice none 0 0] 26)).setRow w.heap.size #[.string { data := #[104, 111, 109, 101] }, .slice none 0 0, .slice none 0 0]) = w1 at *
  have hS0 : SQ w1 w.heap.size #[.string { data := #[104, 111, 109, 101] }, .slice none 0 0, .slice none 0 0] 26 w1.drew := ⟨k0.drew, (Below.refl _ _).drew⟩
  have HP := Lib.hid (fun W (hW : SQ w1 w.heap.size #[.string { data := #[104, 111, 109, 101] }, .slice none 0 0, .slice none 0 0] 26 W) => hP.of hW.2)
  refine wp_region_held_drew (S := SQ w1 w.heap.size #[.string { data := #[104, 111, 109, 101] }, .slice none 0 0, .slice none 0 0] 26) (by kernel_rfl) hS0 (fun hS => ?_)
  clear hS0 k0
  refine take_at 1 (by decide) (by kernel_rfl) (by kernel_rfl) (by kernel_rfl) (fun _ _ _ h => h) hS (yields_load_row (by rfl) 26 (.tmp 1) rfl w.heap.size rfl _ _ _ _ (fun W hW => hW.1) Tryd.underlying26 rfl (by kernel_rfl)) ?_
  simp only [List.getElem_cons_zero, List.getElem_cons_succ, Act.put, List.setIfInBounds_toArray, List.set_cons_zero, List.set_cons_succ]
  refine call_at 0 (by decide) (Pi := (fun v _ => v = (.agg #[.int .i64 1, .int .i64 1000, .int .i64 120000, .int .i64 30, .int .i64 1, .int .i64 3, .int .i64 0, .int .i64 6, .int .i64 0, .int .i64 0, .string { data := #[104, 111, 109, 101] }, .string { data := #[69, 85, 82] }]))) (by kernel_rfl) (by rfl) (by simp only [List.getElem_cons_zero, List.getElem_cons_succ]; go_simp; first | done | rfl | exact ⟨rfl, rfl⟩) (call_one SQ.mono hS (terms_any 1 _)) ?_
  clear hS
  rintro w2 u hS rfl
  simp only [List.getElem_cons_zero, List.getElem_cons_succ, Act.put, List.setIfInBounds_toArray, List.set_cons_zero, List.set_cons_succ]
  refine call_at 2 (by decide) (Pi := BV l10) (by kernel_rfl) (by rfl) (by simp only [List.getElem_cons_zero, List.getElem_cons_succ]; go_simp; first | done | rfl | exact ⟨rfl, rfl⟩) (call_pv SQ.mono hS (build_1 _ (HP.out _ hS))) ?_
  clear hS
  rintro w3 u hS ⟨a1, a1c, rfl, ha1⟩
  simp only [List.getElem_cons_zero, List.getElem_cons_succ, Act.put, List.setIfInBounds_toArray, List.set_cons_zero, List.set_cons_succ]
  refine take_at 3 (by decide) (v := ?_) (by kernel_rfl) (by kernel_rfl) (by kernel_rfl) (fun _ _ _ h => h) hS (Or.inl ⟨by rfl, ?_⟩) ?_
  rotate_left
  · intro W hW
    skip
    clear hW
    simp only [List.getElem_cons_zero, List.getElem_cons_succ]
    go_simp
    first | done | with_reducible rfl
  simp only [List.getElem_cons_zero, List.getElem_cons_succ, Act.put, List.setIfInBounds_toArray, List.set_cons_zero, List.set_cons_succ]
  refine take_at 4 (by decide) (v := ?_) (by kernel_rfl) (by kernel_rfl) (by kernel_rfl) (fun _ _ _ h => h) hS (Or.inl ⟨by rfl, ?_⟩) ?_
  rotate_left
  · intro W hW
    skip
    clear hW
    simp only [List.getElem_cons_zero, List.getElem_cons_succ]
    go_simp
    first | done | with_reducible rfl
  simp only [List.getElem_cons_zero, List.getElem_cons_succ, Act.put, List.setIfInBounds_toArray, List.set_cons_zero, List.set_cons_succ]
  refine take_at 5 (by decide) (v := ?_) (by kernel_rfl) (by kernel_rfl) (by kernel_rfl) (fun _ _ _ h => h) hS (Or.inl ⟨by rfl, ?_⟩) ?_
  rotate_left
  · intro W hW
    skip
    clear hW
    simp only [List.getElem_cons_zero, List.getElem_cons_succ]
    go_simp
    first | done | with_reducible rfl
  simp only [List.getElem_cons_zero, List.getElem_cons_succ, Act.put, List.setIfInBounds_toArray, List.set_cons_zero, List.set_cons_succ]
  refine take_at 6 (by decide) (v := ?_) (by kernel_rfl) (by kernel_rfl) (by kernel_rfl) (fun _ _ _ h => h) hS (Or.inl ⟨by rfl, ?_⟩) ?_
  rotate_left
  · intro W hW
    skip
    clear hW
    simp only [List.getElem_cons_zero, List.getElem_cons_succ]
    go_simp
    first | done | with_reducible rfl
  simp only [List.getElem_cons_zero, List.getElem_cons_succ, Act.put, List.setIfInBounds_toArray, List.set_cons_zero, List.set_cons_succ]
  refine take_at 7 (by decide) (v := ?_) (by kernel_rfl) (by kernel_rfl) (by kernel_rfl) (fun _ _ _ h => h) hS (Or.inl ⟨by rfl, ?_⟩) ?_
  rotate_left
  · intro W hW
    skip
    clear hW
    simp only [List.getElem_cons_zero, List.getElem_cons_succ]
    go_simp
    first | done | with_reducible rfl
  simp only [List.getElem_cons_zero, List.getElem_cons_succ, Act.put, List.setIfInBounds_toArray, List.set_cons_zero, List.set_cons_succ]
  refine wpAnyH_done (by kernel_rfl) ?_ _
  have cw3 := Ln.bl2 hS.2 cw1
  have k3 := hS.1
  have hP3 := HP.out _ hS
  clear hS cw1 HP hP
  have hP := hP3
  clear hP3
  go_upto_region 3 with fail
  have hS0 : SQ w3 w.heap.size #[.string { data := #[104, 111, 109, 101] }, .slice none 0 0, .slice none 0 0] 26 w3.drew := ⟨k3.drew, (Below.refl _ _).drew⟩
  have HP := Lib.hid (fun W (hW : SQ w3 w.heap.size #[.string { data := #[104, 111, 109, 101] }, .slice none 0 0, .slice none 0 0] 26 W) => hP.of hW.2)
  refine wp_region_held_drew (S := SQ w3 w.heap.size #[.string { data := #[104, 111, 109, 101] }, .slice none 0 0, .slice none 0 0] 26) (by kernel_rfl) hS0 (fun hS => ?_)
  clear hS0 k3
  refine take_at 1 (by decide) (by kernel_rfl) (by kernel_rfl) (by kernel_rfl) (fun _ _ _ h => h) hS (yields_load_row (by rfl) 26 (.tmp 1) rfl w.heap.size rfl _ _ _ _ (fun W hW => hW.1) Tryd.underlying26 rfl (by kernel_rfl)) ?_
  simp only [List.getElem_cons_zero, List.getElem_cons_succ, Act.put, List.setIfInBounds_toArray, List.set_cons_zero, List.set_cons_succ]
  refine call_at 0 (by decide) (Pi := (fun v _ => v = (.agg #[.int .i64 2, .int .i64 1000, .int .i64 120000, .int .i64 30, .int .i64 1, .int .i64 3, .int .i64 0, .int .i64 6, .int .i64 0, .int .i64 0, .string { data := #[104, 111, 109, 101] }, .string { data := #[69, 85, 82] }]))) (by kernel_rfl) (by rfl) (by simp only [List.getElem_cons_zero, List.getElem_cons_succ]; go_simp; first | done | rfl | exact ⟨rfl, rfl⟩) (call_one SQ.mono hS (terms_any 2 _)) ?_
  clear hS
  rintro w4 u hS rfl
  simp only [List.getElem_cons_zero, List.getElem_cons_succ, Act.put, List.setIfInBounds_toArray, List.set_cons_zero, List.set_cons_succ]
  refine call_at 2 (by decide) (Pi := BV l20) (by kernel_rfl) (by rfl) (by simp only [List.getElem_cons_zero, List.getElem_cons_succ]; go_simp; first | done | rfl | exact ⟨rfl, rfl⟩) (call_pv SQ.mono hS (build_2 _ (HP.out _ hS))) ?_
  clear hS
  rintro w5 u hS ⟨a2, a2c, rfl, ha2⟩
  simp only [List.getElem_cons_zero, List.getElem_cons_succ, Act.put, List.setIfInBounds_toArray, List.set_cons_zero, List.set_cons_succ]
  refine take_at 3 (by decide) (v := ?_) (by kernel_rfl) (by kernel_rfl) (by kernel_rfl) (fun _ _ _ h => h) hS (Or.inl ⟨by rfl, ?_⟩) ?_
  rotate_left
  · intro W hW
    skip
    clear hW
    simp only [List.getElem_cons_zero, List.getElem_cons_succ]
    go_simp
    first | done | with_reducible rfl
  simp only [List.getElem_cons_zero, List.getElem_cons_succ, Act.put, List.setIfInBounds_toArray, List.set_cons_zero, List.set_cons_succ]
  refine take_at 4 (by decide) (v := ?_) (by kernel_rfl) (by kernel_rfl) (by kernel_rfl) (fun _ _ _ h => h) hS (Or.inl ⟨by rfl, ?_⟩) ?_
  rotate_left
  · intro W hW
    skip
    clear hW
    simp only [List.getElem_cons_zero, List.getElem_cons_succ]
    go_simp
    first | done | with_reducible rfl
  simp only [List.getElem_cons_zero, List.getElem_cons_succ, Act.put, List.setIfInBounds_toArray, List.set_cons_zero, List.set_cons_succ]
  refine take_at 5 (by decide) (v := ?_) (by kernel_rfl) (by kernel_rfl) (by kernel_rfl) (fun _ _ _ h => h) hS (Or.inl ⟨by rfl, ?_⟩) ?_
  rotate_left
  · intro W hW
    skip
    clear hW
    simp only [List.getElem_cons_zero, List.getElem_cons_succ]
    go_simp
    first | done | with_reducible rfl
  simp only [List.getElem_cons_zero, List.getElem_cons_succ, Act.put, List.setIfInBounds_toArray, List.set_cons_zero, List.set_cons_succ]
  refine take_at 6 (by decide) (v := ?_) (by kernel_rfl) (by kernel_rfl) (by kernel_rfl) (fun _ _ _ h => h) hS (Or.inl ⟨by rfl, ?_⟩) ?_
  rotate_left
  · intro W hW
    skip
    clear hW
    simp only [List.getElem_cons_zero, List.getElem_cons_succ]
    go_simp
    first | done | with_reducible rfl
  simp only [List.getElem_cons_zero, List.getElem_cons_succ, Act.put, List.setIfInBounds_toArray, List.set_cons_zero, List.set_cons_succ]
  refine take_at 7 (by decide) (v := ?_) (by kernel_rfl) (by kernel_rfl) (by kernel_rfl) (fun _ _ _ h => h) hS (Or.inl ⟨by rfl, ?_⟩) ?_
  rotate_left
  · intro W hW
    skip
    clear hW
    simp only [List.getElem_cons_zero, List.getElem_cons_succ]
    go_simp
    first | done | with_reducible rfl
  simp only [List.getElem_cons_zero, List.getElem_cons_succ, Act.put, List.setIfInBounds_toArray, List.set_cons_zero, List.set_cons_succ]
  refine wpAnyH_done (by kernel_rfl) ?_ _
  have cw5 := Ln.bl2 hS.2 cw3
  have k5 := hS.1
  replace ha1 := ha1.later hS.2
  clear hS cw3 HP hP
  go_wp2_with fail
  refine (total_1 a1 a1c _ ha1).mono ?_
  rintro e w6 ⟨rfl, hb⟩
  have cw6 := Ln.bl2 hb cw5
  replace k5 := k5.later hb
  replace ha1 := ha1.later hb
  replace ha2 := ha2.later hb
  clear hb cw5
  obtain ⟨b2, o2, rfl, hc2⟩ := ha2.2 (by decide)
  have c2 : w6.cell? ⟨b2, o2 + 2, none⟩ = some (.int .i64 334) := (hc2 0 (by decide)).2.2.1
  clear hc2 ha2
  go_upto_region 7 with fail
  have hS0 : SQ w6 w.heap.size #[.string { data := #[104, 111, 109, 101] }, .slice none 0 0, .slice none 0 0] 26 w6.drew := ⟨k5.drew, (Below.refl _ _).drew⟩
  have HA := Lib.hid (fun W (hW : SQ w6 w.heap.size #[.string { data := #[104, 111, 109, 101] }, .slice none 0 0, .slice none 0 0] 26 W) => ha1.later hW.2)
  have HC := Lib.hid (fun W (hW : SQ w6 w.heap.size #[.string { data := #[104, 111, 109, 101] }, .slice none 0 0, .slice none 0 0] 26 W) => cell_later hW.2 c2)
  refine wp_region_held_drew (S := SQ w6 w.heap.size #[.string { data := #[104, 111, 109, 101] }, .slice none 0 0, .slice none 0 0] 26) (by kernel_rfl) hS0 (fun hS => ?_)
  clear hS0 k5 ha1 c2
  refine take_at 0 (by decide) (v := ?_) (by kernel_rfl) (by kernel_rfl) (by kernel_rfl) (fun _ _ _ h => h) hS (Or.inl ⟨by rfl, ?_⟩) ?_
  rotate_left
  · intro W hW
    skip
    clear hW
    simp only [List.getElem_cons_zero, List.getElem_cons_succ]
    go_simp
    first | done | with_reducible rfl
  simp only [List.getElem_cons_zero, List.getElem_cons_succ, Act.put, List.setIfInBounds_toArray, List.set_cons_zero, List.set_cons_succ]
  refine take_at 1 (by decide) (v := ?_) (by kernel_rfl) (by kernel_rfl) (by kernel_rfl) (fun _ _ _ h => h) hS (Or.inl ⟨by rfl, ?_⟩) ?_
  rotate_left
  · intro W hW
    skip
    clear hW
    simp only [List.getElem_cons_zero, List.getElem_cons_succ]
    go_simp
    first | done | with_reducible rfl
  simp only [List.getElem_cons_zero, List.getElem_cons_succ, Act.put, List.setIfInBounds_toArray, List.set_cons_zero, List.set_cons_succ]
  refine take_at 2 (by decide) (v := ?_) (by kernel_rfl) (by kernel_rfl) (by kernel_rfl) (fun _ _ _ h => h) hS (Or.inl ⟨by rfl, ?_⟩) ?_
  rotate_left
  · intro W hW
    skip
    clear hW
    simp only [List.getElem_cons_zero, List.getElem_cons_succ]
    go_simp
    first | done | with_reducible rfl
  simp only [List.getElem_cons_zero, List.getElem_cons_succ, Act.put, List.setIfInBounds_toArray, List.set_cons_zero, List.set_cons_succ]
  refine take_at 3 (by decide) (v := ?_) (by kernel_rfl) (by kernel_rfl) (by kernel_rfl) (fun _ _ _ h => h) hS (Or.inl ⟨by rfl, ?_⟩) ?_
  rotate_left
  · intro W hW
    skip
    clear hW
    simp only [List.getElem_cons_zero, List.getElem_cons_succ]
    go_simp
    first | done | with_reducible rfl
  simp only [List.getElem_cons_zero, List.getElem_cons_succ, Act.put, List.setIfInBounds_toArray, List.set_cons_zero, List.set_cons_succ]
  refine one_at 4 (by decide) (by kernel_rfl) (by rfl) (fun K hK => ?_)
  refine value_wp (by simp only [List.getElem_cons_zero, List.getElem_cons_succ]; go_simp; first | done | rfl | exact ⟨rfl, rfl⟩) ?_
  have hb4 : Below w6.drew.heap.size w6.drew (w6.drew.alloc (.cells #[.int .i64 1, .int .i64 59, .int .i64 330, .int .i64 10, .int .i64 2, .int .i64 90, .int .i64 333, .int .i64 7, .int .i64 3, .int .i64 120, .int .i64 337, .int .i64 3] 44)) := (Below.refl _ _).alloc (Nat.le_refl _) _
  have hn4 : DuesIn (w6.drew.alloc (.cells #[.int .i64 1, .int .i64 59, .int .i64 330, .int .i64 10, .int .i64 2, .int .i64 90, .int .i64 333, .int .i64 7, .int .i64 3, .int .i64 120, .int .i64 337, .int .i64 3] 44)) (some ⟨w6.drew.heap.size, 0, none⟩) l10 := dues_of_row (by decide) (row_of_cells (xs := l10) Bk.Blk.nw10)
  have hS4 := SQ.mono _ _ hS hb4
  refine hK.out _ _ hS4 (fun hS => ?_)
  clear hS4 hb4 hK
  simp only [List.getElem_cons_zero, List.getElem_cons_succ, Act.put, List.setIfInBounds_toArray, List.set_cons_zero, List.set_cons_succ]
  refine call_at 5 (by decide) (Pi := (fun v _ => v = .bool true)) (by kernel_rfl) (by rfl) (by simp only [List.getElem_cons_zero, List.getElem_cons_succ]; go_simp; first | done | rfl | exact ⟨rfl, rfl⟩) (call_one SQ.mono hS (same_1 _ _ _ _ _ (HA.out _ hS) hn4)) ?_
  clear hS
  rintro w8 u hS rfl
  simp only [List.getElem_cons_zero, List.getElem_cons_succ, Act.put, List.setIfInBounds_toArray, List.set_cons_zero, List.set_cons_succ]
  clear hn4
  refine take_at 6 (by decide) (v := ?_) (by kernel_rfl) (by kernel_rfl) (by kernel_rfl) (fun _ _ _ h => h) hS (Or.inl ⟨by rfl, ?_⟩) ?_
  rotate_left
  · intro W hW
    skip
    clear hW
    simp only [List.getElem_cons_zero, List.getElem_cons_succ]
    go_simp
    first | done | with_reducible rfl
  simp only [List.getElem_cons_zero, List.getElem_cons_succ, Act.put, List.setIfInBounds_toArray, List.set_cons_zero, List.set_cons_succ]
  refine take_at 7 (by decide) (v := ?_) (by kernel_rfl) (by kernel_rfl) (by kernel_rfl) (fun _ _ _ h => h) hS (Or.inl ⟨by rfl, ?_⟩) ?_
  rotate_left
  · intro W hW
    skip
    clear hW
    simp only [List.getElem_cons_zero, List.getElem_cons_succ]
    go_simp
    first | done | with_reducible rfl
  simp only [List.getElem_cons_zero, List.getElem_cons_succ, Act.put, List.setIfInBounds_toArray, List.set_cons_zero, List.set_cons_succ]
  refine take_at 8 (by decide) (v := ?_) (by kernel_rfl) (by kernel_rfl) (by kernel_rfl) (fun _ _ _ h => h) hS (Or.inl ⟨by rfl, ?_⟩) ?_
  rotate_left
  · intro W hW
    skip
    clear hW
    simp only [List.getElem_cons_zero, List.getElem_cons_succ]
    go_simp
    first | done | with_reducible rfl
  simp only [List.getElem_cons_zero, List.getElem_cons_succ, Act.put, List.setIfInBounds_toArray, List.set_cons_zero, List.set_cons_succ]
  refine take_at 9 (by decide) (v := ?_) (by kernel_rfl) (by kernel_rfl) (by kernel_rfl) (fun _ _ _ h => h) hS (Or.inl ⟨by rfl, ?_⟩) ?_
  rotate_left
  · intro W hW
    skip
    clear hW
    simp only [List.getElem_cons_zero, List.getElem_cons_succ]
    go_simp
    first | done | with_reducible rfl
  simp only [List.getElem_cons_zero, List.getElem_cons_succ, Act.put, List.setIfInBounds_toArray, List.set_cons_zero, List.set_cons_succ]
  refine take_at 10 (by decide) (v := ?_) (by kernel_rfl) (by kernel_rfl) (by kernel_rfl) (fun _ _ _ h => h) hS (Or.inl ⟨by rfl, ?_⟩) ?_
  rotate_left
  · intro W hW
    have hq := HC.out W hW
    clear hW
    simp only [List.getElem_cons_zero, List.getElem_cons_succ]
    go_simp
    first | done | with_reducible rfl
  simp only [List.getElem_cons_zero, List.getElem_cons_succ, Act.put, List.setIfInBounds_toArray, List.set_cons_zero, List.set_cons_succ]
  refine take_at 11 (by decide) (v := ?_) (by kernel_rfl) (by kernel_rfl) (by kernel_rfl) (fun _ _ _ h => h) hS (Or.inl ⟨by rfl, ?_⟩) ?_
  rotate_left
  · intro W hW
    skip
    clear hW
    simp only [List.getElem_cons_zero, List.getElem_cons_succ]
    go_simp
    first | done | with_reducible rfl
  simp only [List.getElem_cons_zero, List.getElem_cons_succ, Act.put, List.setIfInBounds_toArray, List.set_cons_zero, List.set_cons_succ]
  refine take_at 12 (by decide) (v := ?_) (by kernel_rfl) (by kernel_rfl) (by kernel_rfl) (fun _ _ _ h => h) hS (Or.inl ⟨by rfl, ?_⟩) ?_
  rotate_left
  · intro W hW
    skip
    clear hW
    simp only [List.getElem_cons_zero, List.getElem_cons_succ]
    go_simp
    first | done | with_reducible rfl
  simp only [List.getElem_cons_zero, List.getElem_cons_succ, Act.put, List.setIfInBounds_toArray, List.set_cons_zero, List.set_cons_succ]
  refine take_at 13 (by decide) (v := ?_) (by kernel_rfl) (by kernel_rfl) (by kernel_rfl) (fun _ _ _ h => h) hS (Or.inl ⟨by rfl, ?_⟩) ?_
  rotate_left
  · intro W hW
    skip
    clear hW
    simp only [List.getElem_cons_zero, List.getElem_cons_succ]
    go_simp
    first | done | with_reducible rfl
  simp only [List.getElem_cons_zero, List.getElem_cons_succ, Act.put, List.setIfInBounds_toArray, List.set_cons_zero, List.set_cons_succ]
  refine take_at 14 (by decide) (v := ?_) (by kernel_rfl) (by kernel_rfl) (by kernel_rfl) (fun _ _ _ h => h) hS (Or.inl ⟨by rfl, ?_⟩) ?_
  rotate_left
  · intro W hW
    skip
    clear hW
    simp only [List.getElem_cons_zero, List.getElem_cons_succ]
    go_simp
    first | done | with_reducible rfl
  simp only [List.getElem_cons_zero, List.getElem_cons_succ, Act.put, List.setIfInBounds_toArray, List.set_cons_zero, List.set_cons_succ]
  refine take_at 15 (by decide) (v := ?_) (by kernel_rfl) (by kernel_rfl) (by kernel_rfl) (fun _ _ _ h => h) hS (Or.inl ⟨by rfl, ?_⟩) ?_
  rotate_left
  · intro W hW
    skip
    clear hW
    simp only [List.getElem_cons_zero, List.getElem_cons_succ]
    go_simp
    first | done | with_reducible rfl
  simp only [List.getElem_cons_zero, List.getElem_cons_succ, Act.put, List.setIfInBounds_toArray, List.set_cons_zero, List.set_cons_succ]
  refine take_at 16 (by decide) (v := ?_) (by kernel_rfl) (by kernel_rfl) (by kernel_rfl) (fun _ _ _ h => h) hS (Or.inl ⟨by rfl, ?_⟩) ?_
  rotate_left
  · intro W hW
    skip
    clear hW
    simp only [List.getElem_cons_zero, List.getElem_cons_succ]
    go_simp
    first | done | with_reducible rfl
  simp only [List.getElem_cons_zero, List.getElem_cons_succ, Act.put, List.setIfInBounds_toArray, List.set_cons_zero, List.set_cons_succ]
  refine take_at 17 (by decide) (v := ?_) (by kernel_rfl) (by kernel_rfl) (by kernel_rfl) (fun _ _ _ h => h) hS (Or.inl ⟨by rfl, ?_⟩) ?_
  rotate_left
  · intro W hW
    skip
    clear hW
    simp only [List.getElem_cons_zero, List.getElem_cons_succ]
    go_simp
    first | done | with_reducible rfl
  simp only [List.getElem_cons_zero, List.getElem_cons_succ, Act.put, List.setIfInBounds_toArray, List.set_cons_zero, List.set_cons_succ]
  refine take_at 18 (by decide) (v := ?_) (by kernel_rfl) (by kernel_rfl) (by kernel_rfl) (fun _ _ _ h => h) hS (Or.inl ⟨by rfl, ?_⟩) ?_
  rotate_left
  · intro W hW
    skip
    clear hW
    simp only [List.getElem_cons_zero, List.getElem_cons_succ]
    go_simp
    first | done | with_reducible rfl
  simp only [List.getElem_cons_zero, List.getElem_cons_succ, Act.put, List.setIfInBounds_toArray, List.set_cons_zero, List.set_cons_succ]
  refine take_at 19 (by decide) (v := ?_) (by kernel_rfl) (by kernel_rfl) (by kernel_rfl) (fun _ _ _ h => h) hS (Or.inl ⟨by rfl, ?_⟩) ?_
  rotate_left
  · intro W hW
    skip
    clear hW
    simp only [List.getElem_cons_zero, List.getElem_cons_succ]
    go_simp
    first | done | with_reducible rfl
  simp only [List.getElem_cons_zero, List.getElem_cons_succ, Act.put, List.setIfInBounds_toArray, List.set_cons_zero, List.set_cons_succ]
  refine take_at 20 (by decide) (v := ?_) (by kernel_rfl) (by kernel_rfl) (by kernel_rfl) (fun _ _ _ h => h) hS (Or.inl ⟨by rfl, ?_⟩) ?_
  rotate_left
  · intro W hW
    skip
    clear hW
    simp only [List.getElem_cons_zero, List.getElem_cons_succ]
    go_simp
    first | done | with_reducible rfl
  simp only [List.getElem_cons_zero, List.getElem_cons_succ, Act.put, List.setIfInBounds_toArray, List.set_cons_zero, List.set_cons_succ]
  refine take_at 21 (by decide) (v := ?_) (by kernel_rfl) (by kernel_rfl) (by kernel_rfl) (fun _ _ _ h => h) hS (Or.inl ⟨by rfl, ?_⟩) ?_
  rotate_left
  · intro W hW
    skip
    clear hW
    simp only [List.getElem_cons_zero, List.getElem_cons_succ]
    go_simp
    first | done | with_reducible rfl
  simp only [List.getElem_cons_zero, List.getElem_cons_succ, Act.put, List.setIfInBounds_toArray, List.set_cons_zero, List.set_cons_succ]
  refine take_at 23 (by decide) (v := ?_) (by kernel_rfl) (by kernel_rfl) (by kernel_rfl) (fun _ _ _ h => h) hS (Or.inl ⟨by rfl, ?_⟩) ?_
  rotate_left
  · intro W hW
    skip
    clear hW
    simp only [List.getElem_cons_zero, List.getElem_cons_succ]
    go_simp
    first | done | with_reducible rfl
  simp only [List.getElem_cons_zero, List.getElem_cons_succ, Act.put, List.setIfInBounds_toArray, List.set_cons_zero, List.set_cons_succ]
  refine call_at 22 (by decide) (Pi := (fun v _ => v = (.agg #[.int .i64 1, .int .i64 1000, .int .i64 120000, .int .i64 30, .int .i64 1, .int .i64 3, .int .i64 0, .int .i64 6, .int .i64 0, .int .i64 0, .string { data := #[104, 111, 109, 101] }, .string { data := #[69, 85, 82] }]))) (by kernel_rfl) (by rfl) (by simp only [List.getElem_cons_zero, List.getElem_cons_succ]; go_simp; first | done | rfl | exact ⟨rfl, rfl⟩) (call_one SQ.mono hS (terms_any 1 _)) ?_
  clear hS
  rintro w9 u hS rfl
  simp only [List.getElem_cons_zero, List.getElem_cons_succ, Act.put, List.setIfInBounds_toArray, List.set_cons_zero, List.set_cons_succ]
  refine call_at 24 (by decide) (Pi := (fun v _ => v = .int .i64 670)) (by kernel_rfl) (by rfl) (by simp only [List.getElem_cons_zero, List.getElem_cons_succ]; go_simp; first | done | rfl | exact ⟨rfl, rfl⟩) (call_one SQ.mono hS (rest_1 _ _ _ (HA.out _ hS))) ?_
  clear hS
  rintro w10 u hS rfl
  simp only [List.getElem_cons_zero, List.getElem_cons_succ, Act.put, List.setIfInBounds_toArray, List.set_cons_zero, List.set_cons_succ]
  refine take_at 25 (by decide) (v := ?_) (by kernel_rfl) (by kernel_rfl) (by kernel_rfl) (fun _ _ _ h => h) hS (Or.inl ⟨by rfl, ?_⟩) ?_
  rotate_left
  · intro W hW
    skip
    clear hW
    simp only [List.getElem_cons_zero, List.getElem_cons_succ]
    go_simp
    first | done | with_reducible rfl
  simp only [List.getElem_cons_zero, List.getElem_cons_succ, Act.put, List.setIfInBounds_toArray, List.set_cons_zero, List.set_cons_succ]
  refine take_at 26 (by decide) (v := ?_) (by kernel_rfl) (by kernel_rfl) (by kernel_rfl) (fun _ _ _ h => h) hS (Or.inl ⟨by rfl, ?_⟩) ?_
  rotate_left
  · intro W hW
    skip
    clear hW
    simp only [List.getElem_cons_zero, List.getElem_cons_succ]
    go_simp
    first | done | with_reducible rfl
  simp only [List.getElem_cons_zero, List.getElem_cons_succ, Act.put, List.setIfInBounds_toArray, List.set_cons_zero, List.set_cons_succ]
  refine take_at 27 (by decide) (v := ?_) (by kernel_rfl) (by kernel_rfl) (by kernel_rfl) (fun _ _ _ h => h) hS (Or.inl ⟨by rfl, ?_⟩) ?_
  rotate_left
  · intro W hW
    skip
    clear hW
    simp only [List.getElem_cons_zero, List.getElem_cons_succ]
    go_simp
    first | done | with_reducible rfl
  simp only [List.getElem_cons_zero, List.getElem_cons_succ, Act.put, List.setIfInBounds_toArray, List.set_cons_zero, List.set_cons_succ]
  refine take_at 28 (by decide) (v := ?_) (by kernel_rfl) (by kernel_rfl) (by kernel_rfl) (fun _ _ _ h => h) hS (Or.inl ⟨by rfl, ?_⟩) ?_
  rotate_left
  · intro W hW
    skip
    clear hW
    simp only [List.getElem_cons_zero, List.getElem_cons_succ]
    go_simp
    first | done | with_reducible rfl
  simp only [List.getElem_cons_zero, List.getElem_cons_succ, Act.put, List.setIfInBounds_toArray, List.set_cons_zero, List.set_cons_succ]
  refine call_at 29 (by decide) (Pi := UV) (by kernel_rfl) (by rfl) (by simp only [List.getElem_cons_zero, List.getElem_cons_succ]; go_simp; first | done | rfl | exact ⟨rfl, rfl⟩) (call_pv SQ.mono hS (until_1 _ _ _ (HA.out _ hS))) ?_
  clear hS
  rintro w11 u hS ⟨a3, c3, rfl⟩
  simp only [List.getElem_cons_zero, List.getElem_cons_succ, Act.put, List.setIfInBounds_toArray, List.set_cons_zero, List.set_cons_succ]
  refine take_at 30 (by decide) (v := ?_) (by kernel_rfl) (by kernel_rfl) (by kernel_rfl) (fun _ _ _ h => h) hS (Or.inl ⟨by rfl, ?_⟩) ?_
  rotate_left
  · intro W hW
    skip
    clear hW
    simp only [List.getElem_cons_zero, List.getElem_cons_succ]
    go_simp
    first | done | with_reducible rfl
  simp only [List.getElem_cons_zero, List.getElem_cons_succ, Act.put, List.setIfInBounds_toArray, List.set_cons_zero, List.set_cons_succ]
  refine take_at 31 (by decide) (v := ?_) (by kernel_rfl) (by kernel_rfl) (by kernel_rfl) (fun _ _ _ h => h) hS (Or.inl ⟨by rfl, ?_⟩) ?_
  rotate_left
  · intro W hW
    skip
    clear hW
    simp only [List.getElem_cons_zero, List.getElem_cons_succ]
    go_simp
    first | done | with_reducible rfl
  simp only [List.getElem_cons_zero, List.getElem_cons_succ, Act.put, List.setIfInBounds_toArray, List.set_cons_zero, List.set_cons_succ]
  refine take_at 32 (by decide) (v := ?_) (by kernel_rfl) (by kernel_rfl) (by kernel_rfl) (fun _ _ _ h => h) hS (Or.inl ⟨by rfl, ?_⟩) ?_
  rotate_left
  · intro W hW
    skip
    clear hW
    simp only [List.getElem_cons_zero, List.getElem_cons_succ]
    go_simp
    first | done | with_reducible rfl
  simp only [List.getElem_cons_zero, List.getElem_cons_succ, Act.put, List.setIfInBounds_toArray, List.set_cons_zero, List.set_cons_succ]
  refine take_at 33 (by decide) (v := ?_) (by kernel_rfl) (by kernel_rfl) (by kernel_rfl) (fun _ _ _ h => h) hS (Or.inl ⟨by rfl, ?_⟩) ?_
  rotate_left
  · intro W hW
    skip
    clear hW
    simp only [List.getElem_cons_zero, List.getElem_cons_succ]
    go_simp
    first | done | with_reducible rfl
  simp only [List.getElem_cons_zero, List.getElem_cons_succ, Act.put, List.setIfInBounds_toArray, List.set_cons_zero, List.set_cons_succ]
  refine take_at 35 (by decide) (by kernel_rfl) (by kernel_rfl) (by kernel_rfl) (fun _ _ _ h => h) hS (yields_load_row (by rfl) 26 (.tmp 1) rfl w.heap.size rfl _ _ _ _ (fun W hW => hW.1) Tryd.underlying26 rfl (by kernel_rfl)) ?_
  simp only [List.getElem_cons_zero, List.getElem_cons_succ, Act.put, List.setIfInBounds_toArray, List.set_cons_zero, List.set_cons_succ]
  refine call_at 34 (by decide) (Pi := (fun v _ => v = (.agg #[.int .i64 5, .int .i64 1000, .int .i64 120000, .int .i64 30, .int .i64 1, .int .i64 3, .int .i64 0, .int .i64 6, .int .i64 0, .int .i64 0, .string { data := #[104, 111, 109, 101] }, .string { data := #[69, 85, 82] }]))) (by kernel_rfl) (by rfl) (by simp only [List.getElem_cons_zero, List.getElem_cons_succ]; go_simp; first | done | rfl | exact ⟨rfl, rfl⟩) (call_one SQ.mono hS (terms_any 5 _)) ?_
  clear hS
  rintro w12 u hS rfl
  simp only [List.getElem_cons_zero, List.getElem_cons_succ, Act.put, List.setIfInBounds_toArray, List.set_cons_zero, List.set_cons_succ]
  refine call_at 36 (by decide) (Pi := (fun v _ => v = .int .i64 1)) (by kernel_rfl) (by rfl) (by simp only [List.getElem_cons_zero, List.getElem_cons_succ]; go_simp; first | done | rfl | exact ⟨rfl, rfl⟩) (call_one SQ.mono hS (check_5 _)) ?_
  clear hS
  rintro w13 u hS rfl
  simp only [List.getElem_cons_zero, List.getElem_cons_succ, Act.put, List.setIfInBounds_toArray, List.set_cons_zero, List.set_cons_succ]
  refine take_at 37 (by decide) (v := ?_) (by kernel_rfl) (by kernel_rfl) (by kernel_rfl) (fun _ _ _ h => h) hS (Or.inl ⟨by rfl, ?_⟩) ?_
  rotate_left
  · intro W hW
    skip
    clear hW
    simp only [List.getElem_cons_zero, List.getElem_cons_succ]
    go_simp
    first | done | with_reducible rfl
  simp only [List.getElem_cons_zero, List.getElem_cons_succ, Act.put, List.setIfInBounds_toArray, List.set_cons_zero, List.set_cons_succ]
  refine take_at 38 (by decide) (v := ?_) (by kernel_rfl) (by kernel_rfl) (by kernel_rfl) (fun _ _ _ h => h) hS (Or.inl ⟨by rfl, ?_⟩) ?_
  rotate_left
  · intro W hW
    skip
    clear hW
    simp only [List.getElem_cons_zero, List.getElem_cons_succ]
    go_simp
    first | done | with_reducible rfl
  simp only [List.getElem_cons_zero, List.getElem_cons_succ, Act.put, List.setIfInBounds_toArray, List.set_cons_zero, List.set_cons_succ]
  refine take_at 39 (by decide) (v := ?_) (by kernel_rfl) (by kernel_rfl) (by kernel_rfl) (fun _ _ _ h => h) hS (Or.inl ⟨by rfl, ?_⟩) ?_
  rotate_left
  · intro W hW
    skip
    clear hW
    simp only [List.getElem_cons_zero, List.getElem_cons_succ]
    go_simp
    first | done | with_reducible rfl
  simp only [List.getElem_cons_zero, List.getElem_cons_succ, Act.put, List.setIfInBounds_toArray, List.set_cons_zero, List.set_cons_succ]
  refine wpAnyH_done (by kernel_rfl) ?_ _
  go_wp2_with fail
  go_ret
  exact ⟨rfl, Ln.bl2 hS.2 cw6⟩
end Go.Proofs.YtmdjikmpgckpbaaDoor.Kl
