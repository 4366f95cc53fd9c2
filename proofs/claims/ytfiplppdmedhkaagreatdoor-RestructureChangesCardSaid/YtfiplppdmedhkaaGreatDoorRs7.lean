/-
  The chapter's example holds: lives.
-/
import Derived.Test.YtfiplppdmedhkaaGreatDoorRsb
import Derived.Test.YtfiplppdmedhkaaGreatDoorTkb
namespace Go.Proofs.YtfiplppdmedhkaaGreatDoor.Ln
open Go Go.RowKit
open Go.Proofs.YtfiplppdmedhkaaGreatDoor
open Go.Proofs.YtfiplppdmedhkaaGreatDoor.Kl (Cl CalIn skE skchk_any sk_ok blE blV bl_facts bl_len BlOut ls_inj cl0 hmB euB row_of_cells)
set_option linter.unusedSimpArgs false
set_option linter.unusedVariables false
set_option maxRecDepth 100000

set_option maxHeartbeats 32000000 in
theorem lives36_any (w : World) (hs : Rd.Stp w) : Calls Tryz.prog 16 #[] w fun e w' => e = .returned (.bool true) ∧ Below w.heap.size w w' := by
  go_enter Tryz.func16, Tryz.ntmps16
  have hfd : ∀ (g : Nat) (W : World), (Instr.field 31 (.agg #[.int .i64 1, .int .i64 1000, .int .i64 1, .int .i64 300, .int .i64 0, .int .i64 0, .int .i64 5, .int .i64 30, .int .i64 0, .int .i64 0, .int .i64 0, .int .i64 2, .int .i64 1000, .int .i64 0, .int .i64 30, .int .i64 1, .int .i64 3, .int .i64 0, .int .i64 1, .int .i64 0, .int .i64 0, .string { data := #[104, 111, 109, 101] }, .string { data := #[69, 85, 82] }, .slice (some ⟨g, 0, none⟩) 3 3, .slice none 0 0]) 11).run Tryz.prog W = .ok (.agg #[.int .i64 2, .int .i64 1000, .int .i64 0, .int .i64 30, .int .i64 1, .int .i64 3, .int .i64 0, .int .i64 1, .int .i64 0, .int .i64 0, .string { data := #[104, 111, 109, 101] }, .string { data := #[69, 85, 82] }]) W := fun g W => by kernel_rfl
  have cw1 : Below w.heap.size w ((w.alloc (.cells #[.string { data := #[] }, .slice none 0 0, .slice none 0 0] 26)).setRow w.heap.size #[.string { data := #[104, 111, 109, 101] }, .slice none 0 0, .slice none 0 0]) := Below_setRow ((Below.refl _ _).alloc (Nat.le_refl _) _) (Nat.le_refl _) _
  have kc : Bk.Blk ((w.alloc (.cells #[.string { data := #[] }, .slice none 0 0, .slice none 0 0] 26)).setRow w.heap.size #[.string { data := #[104, 111, 109, 101] }, .slice none 0 0, .slice none 0 0]) w.heap.size #[.string { data := #[104, 111, 109, 101] }, .slice none 0 0, .slice none 0 0] 26 := Blk_setRow_same Bk.Blk.nw10
  have HST := Lib.hid (fun W (hW : Below w.heap.size w W) => hs.of hW)
  clear hs
  go_upto_region 2 with (refine wpList_store_row rfl 26 _ _ rfl _ _ rfl rfl _ _ Bk.Blk.nw10 (by kernel_rfl) rfl (by simp [Value.oneCell']) ?_)
  generalize ((w.alloc (.cells #[.string { data := #[] }, .slice none 0 0, .slice none 0 0] 26)).setRow w.heap.size #[.string { data := #[104, 111, 109, 101] }, .slice none 0 0, .slice none 0 0]) = w1 at *
  go_wp2_with fail
  refine (sample_any _).mono ?_
  rintro e w2 ⟨_, rfl, ⟨g1, rfl, hd1⟩, hb⟩
  have cw2 := Ln.bl2 hb cw1
  replace kc := kc.later hb
  clear hb cw1
  go_wp2_with fail
  refine (cap_s g1 _ hd1).mono ?_
  rintro e w3 ⟨rfl, hb⟩
  have cw3 := Ln.bl2 hb cw2
  replace kc := kc.later hb
  clear hb cw2 hd1
  go_upto_region 3 with fail
  go_wp2_with fail
  refine (sample_any _).mono ?_
  rintro e w4 ⟨_, rfl, ⟨g2, rfl, hd2⟩, hb⟩
  have cw4 := Ln.bl2 hb cw3
  replace kc := kc.later hb
  clear hb cw3 hd2
  go_upto_region 4 with (refine wpList_store_row rfl 23 _ _ rfl _ _ rfl rfl _ _ Bk.Blk.nw10 (by kernel_rfl) rfl (by simp [Value.oneCell']) ?_)
  have hb1 : Below w4.heap.size w4 ((w4.alloc (.cells #[.int .i64 0, .int .i64 0, .int .i64 0, .int .i64 0, .int .i64 0, .int .i64 0, .int .i64 0, .int .i64 0, .int .i64 0, .int .i64 0, .string { data := #[] }, .string { data := #[] }] 23)).setRow w4.heap.size #[.int .i64 2, .int .i64 1000, .int .i64 0, .int .i64 30, .int .i64 1, .int .i64 3, .int .i64 0, .int .i64 1, .int .i64 0, .int .i64 0, .string { data := #[104, 111, 109, 101] }, .string { data := #[69, 85, 82] }]) := Below_setRow ((Below.refl _ _).alloc (Nat.le_refl _) _) (Nat.le_refl _) _
  have kt : Bk.Blk ((w4.alloc (.cells #[.int .i64 0, .int .i64 0, .int .i64 0, .int .i64 0, .int .i64 0, .int .i64 0, .int .i64 0, .int .i64 0, .int .i64 0, .int .i64 0, .string { data := #[] }, .string { data := #[] }] 23)).setRow w4.heap.size #[.int .i64 2, .int .i64 1000, .int .i64 0, .int .i64 30, .int .i64 1, .int .i64 3, .int .i64 0, .int .i64 1, .int .i64 0, .int .i64 0, .string { data := #[104, 111, 109, 101] }, .string { data := #[69, 85, 82] }]) w4.heap.size #[.int .i64 2, .int .i64 1000, .int .i64 0, .int .i64 30, .int .i64 1, .int .i64 3, .int .i64 0, .int .i64 1, .int .i64 0, .int .i64 0, .string { data := #[104, 111, 109, 101] }, .string { data := #[69, 85, 82] }] 23 := Blk_setRow_same Bk.Blk.nw10
  have c1 := kt.c1
  have c3 := kt.c3
  have c5 := kt.c5
  have f1 := kt.f1
  have f3 := kt.f3
  have f5 := kt.f5
  go_upto_region 5 with fail
  have hb2 : Below w4.heap.size w4 (((((w4.alloc (.cells #[.int .i64 0, .int .i64 0, .int .i64 0, .int .i64 0, .int .i64 0, .int .i64 0, .int .i64 0, .int .i64 0, .int .i64 0, .int .i64 0, .string { data := #[] }, .string { data := #[] }] 23)).setRow w4.heap.size #[.int .i64 2, .int .i64 1000, .int .i64 0, .int .i64 30, .int .i64 1, .int .i64 3, .int .i64 0, .int .i64 1, .int .i64 0, .int .i64 0, .string { data := #[104, 111, 109, 101] }, .string { data := #[69, 85, 82] }]).setCell ⟨w4.heap.size, 1, none⟩ (.int .i64 705)).setCell ⟨w4.heap.size, 3, none⟩ (.int .i64 100)).setCell ⟨w4.heap.size, 5, none⟩ (.int .i64 1)) := ((hb1.setCell (show w4.heap.size ≤ w4.heap.size from Nat.le_refl _) _).setCell (show w4.heap.size ≤ w4.heap.size from Nat.le_refl _) _).setCell (show w4.heap.size ≤ w4.heap.size from Nat.le_refl _) _
  have kt2 : Bk.Blk (((((w4.alloc (.cells #[.int .i64 0, .int .i64 0, .int .i64 0, .int .i64 0, .int .i64 0, .int .i64 0, .int .i64 0, .int .i64 0, .int .i64 0, .int .i64 0, .string { data := #[] }, .string { data := #[] }] 23)).setRow w4.heap.size #[.int .i64 2, .int .i64 1000, .int .i64 0, .int .i64 30, .int .i64 1, .int .i64 3, .int .i64 0, .int .i64 1, .int .i64 0, .int .i64 0, .string { data := #[104, 111, 109, 101] }, .string { data := #[69, 85, 82] }]).setCell ⟨w4.heap.size, 1, none⟩ (.int .i64 705)).setCell ⟨w4.heap.size, 3, none⟩ (.int .i64 100)).setCell ⟨w4.heap.size, 5, none⟩ (.int .i64 1)) w4.heap.size #[.int .i64 2, .int .i64 705, .int .i64 0, .int .i64 100, .int .i64 1, .int .i64 1, .int .i64 0, .int .i64 1, .int .i64 0, .int .i64 0, .string { data := #[104, 111, 109, 101] }, .string { data := #[69, 85, 82] }] 23 := (((kt.set_same (i := 1) (u := .int .i64 705)).set_same (i := 3) (u := .int .i64 100)).set_same (i := 5) (u := .int .i64 1)).conv rfl
  clear c1 c3 c5 f1 f3 f5 kt hb1
  replace kc := kc.later hb2
  have cw5 := Ln.bl2 hb2 cw4
  clear hb2 cw4
  generalize (((((w4.alloc (.cells #[.int .i64 0, .int .i64 0, .int .i64 0, .int .i64 0, .int .i64 0, .int .i64 0, .int .i64 0, .int .i64 0, .int .i64 0, .int .i64 0, .string { data := #[] }, .string { data := #[] }] 23)).setRow w4.heap.size #[.int .i64 2, .int .i64 1000, .int .i64 0, .int .i64 30, .int .i64 1, .int .i64 3, .int .i64 0, .int .i64 1, .int .i64 0, .int .i64 0, .string { data := #[104, 111, 109, 101] }, .string { data := #[69, 85, 82] }]).setCell ⟨w4.heap.size, 1, none⟩ (.int .i64 705)).setCell ⟨w4.heap.size, 3, none⟩ (.int .i64 100)).setCell ⟨w4.heap.size, 5, none⟩ (.int .i64 1)) = w5 at *
  generalize w4.heap.size = gt at *
  have hSt5 := HST.out _ cw5
  have hS0 : SB w5 w5.drew := (Below.refl _ _).drew
  apply key7_of (fun (W : World) (g1 g5 : Nat) (da : Option Addr) (dk : Nat) (ca : Option Addr) (ck : Nat) => SB w5 W ∧ Bk.Blk W g5 #[.int .i64 1, .int .i64 1000, .int .i64 1, .int .i64 0, .int .i64 0, .int .i64 0, .int .i64 0, .int .i64 100, .int .i64 0, .int .i64 0, .int .i64 0, .int .i64 2, .int .i64 705, .int .i64 0, .int .i64 100, .int .i64 1, .int .i64 1, .int .i64 0, .int .i64 1, .int .i64 0, .int .i64 0, .string { data := #[104, 111, 109, 101] }, .string { data := #[69, 85, 82] }, .slice da 1 dk, .slice ca 1 ck] 31 ∧ DuesIn W da [(⟨1, 130, 705, 0⟩ : Du)] ∧ RowIn cenc W ca [(⟨100, 705, smT⟩ : Ch)])
  · intro KEY
    refine wp_region_held_drew (S := SB w5) (by kernel_rfl) hS0 (fun hS => ?_)
    refine take_at 1 (by decide) (by kernel_rfl) (by kernel_rfl) (by kernel_rfl) (fun _ _ _ h => h) hS (yields_load_row (by rfl) 23 (.tmp 4) rfl gt rfl _ _ _ _ (fun W hW => (kt2.later hW)) Tryz.underlying23 rfl (by kernel_rfl)) ?_
    simp only [z0, z1, Act.put, z3, z4, z5]
    refine take_at 2 (by decide) (by kernel_rfl) (by kernel_rfl) (by kernel_rfl) (fun _ _ _ h => h) hS (yields_load_row (by rfl) 26 (.tmp 1) rfl w.heap.size rfl _ _ _ _ (fun W hW => (kc.later hW)) Tryz.underlying26 rfl (by kernel_rfl)) ?_
    simp only [z0, z1, Act.put, z3, z4, z5]
    refine two_at 0 7 (by decide) (by decide) (by kernel_rfl) (by rfl) (by rfl) (fun K hK => ?_) (fun K hK => ?_)
    · refine call_wp (by simp only [z0, z1]; go_simp; first | done | rfl | exact ⟨rfl, rfl⟩) ((sample_any _).mono ?_)
      rintro e u0 ⟨_, rfl, ⟨g1, rfl, hd1⟩, hb⟩
      have hT := SB.mono _ _ hS hb
      refine ⟨_, rfl, hK.out _ _ hT (fun hT' => ?_)⟩
      clear hT' hS hK hb
      have hS := hT
      clear hT
      simp only [z0, z1, Act.put, z3, z4, z5]
      refine two_at 3 7 (by decide) (by decide) (by kernel_rfl) (by rfl) (by rfl) (fun K hK => ?_) (fun K hK => ?_)
      · refine call_wp (by simp only [z0, z1]; go_simp; first | done | rfl | exact ⟨rfl, rfl⟩) ((chg_s g1 _ hd1 (hSt5.of hS)).mono ?_)
        rintro e u1 ⟨_, rfl, ⟨da, dk, ca, ck, rfl, hd2, hr2, hf2⟩, hb⟩
        have hT := SB.mono _ _ hS hb
        refine ⟨_, rfl, hK.out _ _ hT (fun hT' => ?_)⟩
        clear hT' hS hK hb
        have hS := hT
        clear hT
        clear hd1
        simp only [z0, z1, Act.put, z3, z4, z5]
        refine tk 4 (by decide) ?_ hS (by kernel_rfl) (by kernel_rfl) (by kernel_rfl) (by rfl) (fun _ _ _ h => h) ?_ ?_
        rotate_left
        · intro W hW
          clear hW
          simp only [z0, z1]
          go_simp
          first | done | with_reducible rfl
        simp only [z0, z1, Act.put, z3, z4, z5]
        refine tk 5 (by decide) ?_ hS (by kernel_rfl) (by kernel_rfl) (by kernel_rfl) (by rfl) (fun _ _ _ h => h) ?_ ?_
        rotate_left
        · intro W hW
          clear hW
          simp only [z0, z1]
          go_simp
          first | done | with_reducible rfl
        simp only [z0, z1, Act.put, z3, z4, z5]
        refine tk 6 (by decide) ?_ hS (by kernel_rfl) (by kernel_rfl) (by kernel_rfl) (by rfl) (fun _ _ _ h => h) ?_ ?_
        rotate_left
        · intro W hW
          clear hW
          simp only [z0, z1]
          go_simp
          first | done | with_reducible rfl
        simp only [z0, z1, Act.put, z3, z4, z5]
        refine one_at 7 (by decide) (by kernel_rfl) (by rfl) (fun K hK => ?_)
        have hne : (∀ ad, da = some ad → ad.block ≠ u1.heap.size) ∧ (∀ ad, ca = some ad → ad.block ≠ u1.heap.size) := ⟨fun ad had => Nat.ne_of_lt (dues_lt hd2 (by decide) ad had), fun ad had => Nat.ne_of_lt (rowc_lt hr2 (by decide) ad had)⟩
        refine value_wp (by simp only [z0, z1]; go_simp; first | done | rfl | exact ⟨rfl, rfl⟩) ?_
        have hX : Below u1.heap.size u1 (u1.alloc (.cells #[.int .i64 0, .int .i64 0, .int .i64 0, .int .i64 0, .int .i64 0, .int .i64 0, .int .i64 0, .int .i64 0, .int .i64 0, .int .i64 0, .int .i64 0, .int .i64 0, .int .i64 0, .int .i64 0, .int .i64 0, .int .i64 0, .int .i64 0, .int .i64 0, .int .i64 0, .int .i64 0, .int .i64 0, .string { data := #[] }, .string { data := #[] }, .slice none 0 0, .slice none 0 0] 31)) := (Below.refl _ _).alloc (Nat.le_refl _) _
        have hT : SB w5 (u1.alloc (.cells #[.int .i64 0, .int .i64 0, .int .i64 0, .int .i64 0, .int .i64 0, .int .i64 0, .int .i64 0, .int .i64 0, .int .i64 0, .int .i64 0, .int .i64 0, .int .i64 0, .int .i64 0, .int .i64 0, .int .i64 0, .int .i64 0, .int .i64 0, .int .i64 0, .int .i64 0, .int .i64 0, .int .i64 0, .string { data := #[] }, .string { data := #[] }, .slice none 0 0, .slice none 0 0] 31)) := SB.mono _ _ hS hX
        have hN : Bk.Blk (u1.alloc (.cells #[.int .i64 0, .int .i64 0, .int .i64 0, .int .i64 0, .int .i64 0, .int .i64 0, .int .i64 0, .int .i64 0, .int .i64 0, .int .i64 0, .int .i64 0, .int .i64 0, .int .i64 0, .int .i64 0, .int .i64 0, .int .i64 0, .int .i64 0, .int .i64 0, .int .i64 0, .int .i64 0, .int .i64 0, .string { data := #[] }, .string { data := #[] }, .slice none 0 0, .slice none 0 0] 31)) u1.heap.size #[.int .i64 0, .int .i64 0, .int .i64 0, .int .i64 0, .int .i64 0, .int .i64 0, .int .i64 0, .int .i64 0, .int .i64 0, .int .i64 0, .int .i64 0, .int .i64 0, .int .i64 0, .int .i64 0, .int .i64 0, .int .i64 0, .int .i64 0, .int .i64 0, .int .i64 0, .int .i64 0, .int .i64 0, .string { data := #[] }, .string { data := #[] }, .slice none 0 0, .slice none 0 0] 31 := Bk.Blk.nw10
        have hg : w5.heap.size ≤ u1.heap.size := Below.size hS
        have hlt := hN.lt
        replace hd2 := hd2.later hX
        replace hr2 := hr2.later hX
        refine hK.out _ _ hT (fun hT' => ?_)
        clear hT' hS hK hX
        have hS := hT
        clear hT
        simp only [z0, z1, Act.put, z3, z4, z5]
        generalize (u1.alloc (.cells #[.int .i64 0, .int .i64 0, .int .i64 0, .int .i64 0, .int .i64 0, .int .i64 0, .int .i64 0, .int .i64 0, .int .i64 0, .int .i64 0, .int .i64 0, .int .i64 0, .int .i64 0, .int .i64 0, .int .i64 0, .int .i64 0, .int .i64 0, .int .i64 0, .int .i64 0, .int .i64 0, .int .i64 0, .string { data := #[] }, .string { data := #[] }, .slice none 0 0, .slice none 0 0] 31)) = v2 at *
        obtain ⟨ga2, eg⟩ : ∃ g, g = u1.heap.size := ⟨_, rfl⟩
        rw [← eg] at hN hlt ⊢
        replace hg : w5.heap.size ≤ ga2 := by omega
        rw [← eg] at hne
        clear eg
        refine one_at 8 (by decide) (by kernel_rfl) (by rfl) (fun K hK => ?_)
        simp only [z0, z1]
        refine wp_store_row 31 _ _ rfl ga2 _ rfl rfl _ _ hN (by kernel_rfl) rfl (by simp [Value.oneCell']) ?_
        have hT : SB w5 (v2.setRow ga2 #[.int .i64 1, .int .i64 1000, .int .i64 1, .int .i64 0, .int .i64 0, .int .i64 0, .int .i64 0, .int .i64 100, .int .i64 0, .int .i64 0, .int .i64 0, .int .i64 2, .int .i64 705, .int .i64 0, .int .i64 100, .int .i64 1, .int .i64 1, .int .i64 0, .int .i64 1, .int .i64 0, .int .i64 0, .string { data := #[104, 111, 109, 101] }, .string { data := #[69, 85, 82] }, .slice da 1 dk, .slice ca 1 ck]) := Below_setRow hS hg _
        have hz : Bk.Blk (v2.setRow ga2 #[.int .i64 1, .int .i64 1000, .int .i64 1, .int .i64 0, .int .i64 0, .int .i64 0, .int .i64 0, .int .i64 100, .int .i64 0, .int .i64 0, .int .i64 0, .int .i64 2, .int .i64 705, .int .i64 0, .int .i64 100, .int .i64 1, .int .i64 1, .int .i64 0, .int .i64 1, .int .i64 0, .int .i64 0, .string { data := #[104, 111, 109, 101] }, .string { data := #[69, 85, 82] }, .slice da 1 dk, .slice ca 1 ck]) ga2 #[.int .i64 1, .int .i64 1000, .int .i64 1, .int .i64 0, .int .i64 0, .int .i64 0, .int .i64 0, .int .i64 100, .int .i64 0, .int .i64 0, .int .i64 0, .int .i64 2, .int .i64 705, .int .i64 0, .int .i64 100, .int .i64 1, .int .i64 1, .int .i64 0, .int .i64 1, .int .i64 0, .int .i64 0, .string { data := #[104, 111, 109, 101] }, .string { data := #[69, 85, 82] }, .slice da 1 dk, .slice ca 1 ck] 31 := Blk_setRow_same hN
        replace hd2 : DuesIn (v2.setRow ga2 #[.int .i64 1, .int .i64 1000, .int .i64 1, .int .i64 0, .int .i64 0, .int .i64 0, .int .i64 0, .int .i64 100, .int .i64 0, .int .i64 0, .int .i64 0, .int .i64 2, .int .i64 705, .int .i64 0, .int .i64 100, .int .i64 1, .int .i64 1, .int .i64 0, .int .i64 1, .int .i64 0, .int .i64 0, .string { data := #[104, 111, 109, 101] }, .string { data := #[69, 85, 82] }, .slice da 1 dk, .slice ca 1 ck]) da _ := dues_setRow hd2 hne.1
        replace hr2 : RowIn cenc (v2.setRow ga2 #[.int .i64 1, .int .i64 1000, .int .i64 1, .int .i64 0, .int .i64 0, .int .i64 0, .int .i64 0, .int .i64 100, .int .i64 0, .int .i64 0, .int .i64 0, .int .i64 2, .int .i64 705, .int .i64 0, .int .i64 100, .int .i64 1, .int .i64 1, .int .i64 0, .int .i64 1, .int .i64 0, .int .i64 0, .string { data := #[104, 111, 109, 101] }, .string { data := #[69, 85, 82] }, .slice da 1 dk, .slice ca 1 ck]) ca _ := row_row hr2 hne.2
        refine hK.out _ _ hT (fun hT' => ?_)
        clear hT' hS hK
        have hS := hT
        clear hT
        simp only [z0, z1, Act.put, z3, z4, z5]
        generalize (v2.setRow ga2 #[.int .i64 1, .int .i64 1000, .int .i64 1, .int .i64 0, .int .i64 0, .int .i64 0, .int .i64 0, .int .i64 100, .int .i64 0, .int .i64 0, .int .i64 0, .int .i64 2, .int .i64 705, .int .i64 0, .int .i64 100, .int .i64 1, .int .i64 1, .int .i64 0, .int .i64 1, .int .i64 0, .int .i64 0, .string { data := #[104, 111, 109, 101] }, .string { data := #[69, 85, 82] }, .slice da 1 dk, .slice ca 1 ck]) = ws at *
        refine tk 9 (by decide) ?_ hS (by kernel_rfl) (by kernel_rfl) (by kernel_rfl) (by rfl) (fun _ _ _ h => h) ?_ ?_
        rotate_left
        · intro W hW
          clear hW
          simp only [z0, z1]
          go_simp
          first | done | with_reducible rfl
        simp only [z0, z1, Act.put, z3, z4, z5]
        refine wpAnyH_done (by kernel_rfl) ?_ _
        exact KEY ws g1 ga2 da dk ca ck ⟨hS, hz, hd2, hr2⟩
      · refine value_wp (by simp only [z0, z1]; go_simp; first | done | rfl | exact ⟨rfl, rfl⟩) ?_
        have hX : Below u0.heap.size u0 (u0.alloc (.cells #[.int .i64 0, .int .i64 0, .int .i64 0, .int .i64 0, .int .i64 0, .int .i64 0, .int .i64 0, .int .i64 0, .int .i64 0, .int .i64 0, .int .i64 0, .int .i64 0, .int .i64 0, .int .i64 0, .int .i64 0, .int .i64 0, .int .i64 0, .int .i64 0, .int .i64 0, .int .i64 0, .int .i64 0, .string { data := #[] }, .string { data := #[] }, .slice none 0 0, .slice none 0 0] 31)) := (Below.refl _ _).alloc (Nat.le_refl _) _
        have hT : SB w5 (u0.alloc (.cells #[.int .i64 0, .int .i64 0, .int .i64 0, .int .i64 0, .int .i64 0, .int .i64 0, .int .i64 0, .int .i64 0, .int .i64 0, .int .i64 0, .int .i64 0, .int .i64 0, .int .i64 0, .int .i64 0, .int .i64 0, .int .i64 0, .int .i64 0, .int .i64 0, .int .i64 0, .int .i64 0, .int .i64 0, .string { data := #[] }, .string { data := #[] }, .slice none 0 0, .slice none 0 0] 31)) := SB.mono _ _ hS hX
        have hN : Bk.Blk (u0.alloc (.cells #[.int .i64 0, .int .i64 0, .int .i64 0, .int .i64 0, .int .i64 0, .int .i64 0, .int .i64 0, .int .i64 0, .int .i64 0, .int .i64 0, .int .i64 0, .int .i64 0, .int .i64 0, .int .i64 0, .int .i64 0, .int .i64 0, .int .i64 0, .int .i64 0, .int .i64 0, .int .i64 0, .int .i64 0, .string { data := #[] }, .string { data := #[] }, .slice none 0 0, .slice none 0 0] 31)) u0.heap.size #[.int .i64 0, .int .i64 0, .int .i64 0, .int .i64 0, .int .i64 0, .int .i64 0, .int .i64 0, .int .i64 0, .int .i64 0, .int .i64 0, .int .i64 0, .int .i64 0, .int .i64 0, .int .i64 0, .int .i64 0, .int .i64 0, .int .i64 0, .int .i64 0, .int .i64 0, .int .i64 0, .int .i64 0, .string { data := #[] }, .string { data := #[] }, .slice none 0 0, .slice none 0 0] 31 := Bk.Blk.nw10
        have hg : w5.heap.size ≤ u0.heap.size := Below.size hS
        have hlt := hN.lt
        replace hd1 := hd1.later hX
        refine hK.out _ _ hT (fun hT' => ?_)
        clear hT' hS hK hX
        have hS := hT
        clear hT
        simp only [z0, z1, Act.put, z3, z4, z5]
        generalize (u0.alloc (.cells #[.int .i64 0, .int .i64 0, .int .i64 0, .int .i64 0, .int .i64 0, .int .i64 0, .int .i64 0, .int .i64 0, .int .i64 0, .int .i64 0, .int .i64 0, .int .i64 0, .int .i64 0, .int .i64 0, .int .i64 0, .int .i64 0, .int .i64 0, .int .i64 0, .int .i64 0, .int .i64 0, .int .i64 0, .string { data := #[] }, .string { data := #[] }, .slice none 0 0, .slice none 0 0] 31)) = v1 at *
        obtain ⟨ga1, eg⟩ : ∃ g, g = u0.heap.size := ⟨_, rfl⟩
        rw [← eg] at hN hlt ⊢
        replace hg : w5.heap.size ≤ ga1 := by omega
        clear eg
        refine one_at 3 (by decide) (by kernel_rfl) (by rfl) (fun K hK => ?_)
        have hlt := hN.lt
        refine call_wp (by simp only [z0, z1]; go_simp; first | done | rfl | exact ⟨rfl, rfl⟩) ((chg_s g1 _ hd1 (hSt5.of hS)).mono ?_)
        rintro e u2 ⟨_, rfl, ⟨da, dk, ca, ck, rfl, hd2, hr2, hf2⟩, hb⟩
        have hT := SB.mono _ _ hS hb
        replace hN := hN.later hb
        have hne : (∀ ad, da = some ad → ad.block ≠ ga1) ∧ (∀ ad, ca = some ad → ad.block ≠ ga1) := ⟨fun ad had => by have := hf2.1 ad had; omega, fun ad had => by have := hf2.2 ad had; omega⟩
        refine ⟨_, rfl, hK.out _ _ hT (fun hT' => ?_)⟩
        clear hT' hS hK hb
        have hS := hT
        clear hT
        clear hd1
        simp only [z0, z1, Act.put, z3, z4, z5]
        refine tk 4 (by decide) ?_ hS (by kernel_rfl) (by kernel_rfl) (by kernel_rfl) (by rfl) (fun _ _ _ h => h) ?_ ?_
        rotate_left
        · intro W hW
          clear hW
          simp only [z0, z1]
          go_simp
          first | done | with_reducible rfl
        simp only [z0, z1, Act.put, z3, z4, z5]
        refine tk 5 (by decide) ?_ hS (by kernel_rfl) (by kernel_rfl) (by kernel_rfl) (by rfl) (fun _ _ _ h => h) ?_ ?_
        rotate_left
        · intro W hW
          clear hW
          simp only [z0, z1]
          go_simp
          first | done | with_reducible rfl
        simp only [z0, z1, Act.put, z3, z4, z5]
        refine tk 6 (by decide) ?_ hS (by kernel_rfl) (by kernel_rfl) (by kernel_rfl) (by rfl) (fun _ _ _ h => h) ?_ ?_
        rotate_left
        · intro W hW
          clear hW
          simp only [z0, z1]
          go_simp
          first | done | with_reducible rfl
        simp only [z0, z1, Act.put, z3, z4, z5]
        refine one_at 8 (by decide) (by kernel_rfl) (by rfl) (fun K hK => ?_)
        simp only [z0, z1]
        refine wp_store_row 31 _ _ rfl ga1 _ rfl rfl _ _ hN (by kernel_rfl) rfl (by simp [Value.oneCell']) ?_
        have hT : SB w5 (u2.setRow ga1 #[.int .i64 1, .int .i64 1000, .int .i64 1, .int .i64 0, .int .i64 0, .int .i64 0, .int .i64 0, .int .i64 100, .int .i64 0, .int .i64 0, .int .i64 0, .int .i64 2, .int .i64 705, .int .i64 0, .int .i64 100, .int .i64 1, .int .i64 1, .int .i64 0, .int .i64 1, .int .i64 0, .int .i64 0, .string { data := #[104, 111, 109, 101] }, .string { data := #[69, 85, 82] }, .slice da 1 dk, .slice ca 1 ck]) := Below_setRow hS hg _
        have hz : Bk.Blk (u2.setRow ga1 #[.int .i64 1, .int .i64 1000, .int .i64 1, .int .i64 0, .int .i64 0, .int .i64 0, .int .i64 0, .int .i64 100, .int .i64 0, .int .i64 0, .int .i64 0, .int .i64 2, .int .i64 705, .int .i64 0, .int .i64 100, .int .i64 1, .int .i64 1, .int .i64 0, .int .i64 1, .int .i64 0, .int .i64 0, .string { data := #[104, 111, 109, 101] }, .string { data := #[69, 85, 82] }, .slice da 1 dk, .slice ca 1 ck]) ga1 #[.int .i64 1, .int .i64 1000, .int .i64 1, .int .i64 0, .int .i64 0, .int .i64 0, .int .i64 0, .int .i64 100, .int .i64 0, .int .i64 0, .int .i64 0, .int .i64 2, .int .i64 705, .int .i64 0, .int .i64 100, .int .i64 1, .int .i64 1, .int .i64 0, .int .i64 1, .int .i64 0, .int .i64 0, .string { data := #[104, 111, 109, 101] }, .string { data := #[69, 85, 82] }, .slice da 1 dk, .slice ca 1 ck] 31 := Blk_setRow_same hN
        replace hd2 : DuesIn (u2.setRow ga1 #[.int .i64 1, .int .i64 1000, .int .i64 1, .int .i64 0, .int .i64 0, .int .i64 0, .int .i64 0, .int .i64 100, .int .i64 0, .int .i64 0, .int .i64 0, .int .i64 2, .int .i64 705, .int .i64 0, .int .i64 100, .int .i64 1, .int .i64 1, .int .i64 0, .int .i64 1, .int .i64 0, .int .i64 0, .string { data := #[104, 111, 109, 101] }, .string { data := #[69, 85, 82] }, .slice da 1 dk, .slice ca 1 ck]) da _ := dues_setRow hd2 hne.1
        replace hr2 : RowIn cenc (u2.setRow ga1 #[.int .i64 1, .int .i64 1000, .int .i64 1, .int .i64 0, .int .i64 0, .int .i64 0, .int .i64 0, .int .i64 100, .int .i64 0, .int .i64 0, .int .i64 0, .int .i64 2, .int .i64 705, .int .i64 0, .int .i64 100, .int .i64 1, .int .i64 1, .int .i64 0, .int .i64 1, .int .i64 0, .int .i64 0, .string { data := #[104, 111, 109, 101] }, .string { data := #[69, 85, 82] }, .slice da 1 dk, .slice ca 1 ck]) ca _ := row_row hr2 hne.2
        refine hK.out _ _ hT (fun hT' => ?_)
        clear hT' hS hK
        have hS := hT
        clear hT
        simp only [z0, z1, Act.put, z3, z4, z5]
        generalize (u2.setRow ga1 #[.int .i64 1, .int .i64 1000, .int .i64 1, .int .i64 0, .int .i64 0, .int .i64 0, .int .i64 0, .int .i64 100, .int .i64 0, .int .i64 0, .int .i64 0, .int .i64 2, .int .i64 705, .int .i64 0, .int .i64 100, .int .i64 1, .int .i64 1, .int .i64 0, .int .i64 1, .int .i64 0, .int .i64 0, .string { data := #[104, 111, 109, 101] }, .string { data := #[69, 85, 82] }, .slice da 1 dk, .slice ca 1 ck]) = ws at *
        refine tk 9 (by decide) ?_ hS (by kernel_rfl) (by kernel_rfl) (by kernel_rfl) (by rfl) (fun _ _ _ h => h) ?_ ?_
        rotate_left
        · intro W hW
          clear hW
          simp only [z0, z1]
          go_simp
          first | done | with_reducible rfl
        simp only [z0, z1, Act.put, z3, z4, z5]
        refine wpAnyH_done (by kernel_rfl) ?_ _
        exact KEY ws g1 ga1 da dk ca ck ⟨hS, hz, hd2, hr2⟩
    · refine value_wp (by simp only [z0, z1]; go_simp; first | done | rfl | exact ⟨rfl, rfl⟩) ?_
      have hT : SB w5 ((w5.alloc (.cells #[.int .i64 0, .int .i64 0, .int .i64 0, .int .i64 0, .int .i64 0, .int .i64 0, .int .i64 0, .int .i64 0, .int .i64 0, .int .i64 0, .int .i64 0, .int .i64 0, .int .i64 0, .int .i64 0, .int .i64 0, .int .i64 0, .int .i64 0, .int .i64 0, .int .i64 0, .int .i64 0, .int .i64 0, .string { data := #[] }, .string { data := #[] }, .slice none 0 0, .slice none 0 0] 31)).drew) := ((Below.refl _ _).alloc (Nat.le_refl _) _).drew
      have hX := hT
      have hN : Bk.Blk ((w5.alloc (.cells #[.int .i64 0, .int .i64 0, .int .i64 0, .int .i64 0, .int .i64 0, .int .i64 0, .int .i64 0, .int .i64 0, .int .i64 0, .int .i64 0, .int .i64 0, .int .i64 0, .int .i64 0, .int .i64 0, .int .i64 0, .int .i64 0, .int .i64 0, .int .i64 0, .int .i64 0, .int .i64 0, .int .i64 0, .string { data := #[] }, .string { data := #[] }, .slice none 0 0, .slice none 0 0] 31)).drew) w5.heap.size #[.int .i64 0, .int .i64 0, .int .i64 0, .int .i64 0, .int .i64 0, .int .i64 0, .int .i64 0, .int .i64 0, .int .i64 0, .int .i64 0, .int .i64 0, .int .i64 0, .int .i64 0, .int .i64 0, .int .i64 0, .int .i64 0, .int .i64 0, .int .i64 0, .int .i64 0, .int .i64 0, .int .i64 0, .string { data := #[] }, .string { data := #[] }, .slice none 0 0, .slice none 0 0] 31 := Bk.Blk.drew Bk.Blk.nw10
      have hg : w5.heap.size ≤ w5.heap.size := Nat.le_refl _
      have hlt := hN.lt
      refine hK.out _ _ hT (fun hT' => ?_)
      clear hT' hS hK hX
      have hS := hT
      clear hT
      simp only [z0, z1, Act.put, z3, z4, z5]
      generalize ((w5.alloc (.cells #[.int .i64 0, .int .i64 0, .int .i64 0, .int .i64 0, .int .i64 0, .int .i64 0, .int .i64 0, .int .i64 0, .int .i64 0, .int .i64 0, .int .i64 0, .int .i64 0, .int .i64 0, .int .i64 0, .int .i64 0, .int .i64 0, .int .i64 0, .int .i64 0, .int .i64 0, .int .i64 0, .int .i64 0, .string { data := #[] }, .string { data := #[] }, .slice none 0 0, .slice none 0 0] 31)).drew) = v0 at *
      obtain ⟨ga0, eg⟩ : ∃ g, g = w5.heap.size := ⟨_, rfl⟩
      rw [← eg] at hN hlt ⊢
      replace hg : w5.heap.size ≤ ga0 := by omega
      clear eg
      refine one_at 0 (by decide) (by kernel_rfl) (by rfl) (fun K hK => ?_)
      refine call_wp (by simp only [z0, z1]; go_simp; first | done | rfl | exact ⟨rfl, rfl⟩) ((sample_any _).mono ?_)
      rintro e u1 ⟨_, rfl, ⟨g1, rfl, hd1⟩, hb⟩
      have hT := SB.mono _ _ hS hb
      replace hN := hN.later hb
      refine ⟨_, rfl, hK.out _ _ hT (fun hT' => ?_)⟩
      clear hT' hS hK hb
      have hS := hT
      clear hT
      simp only [z0, z1, Act.put, z3, z4, z5]
      refine one_at 3 (by decide) (by kernel_rfl) (by rfl) (fun K hK => ?_)
      have hlt := hN.lt
      refine call_wp (by simp only [z0, z1]; go_simp; first | done | rfl | exact ⟨rfl, rfl⟩) ((chg_s g1 _ hd1 (hSt5.of hS)).mono ?_)
      rintro e u2 ⟨_, rfl, ⟨da, dk, ca, ck, rfl, hd2, hr2, hf2⟩, hb⟩
      have hT := SB.mono _ _ hS hb
      replace hN := hN.later hb
      have hne : (∀ ad, da = some ad → ad.block ≠ ga0) ∧ (∀ ad, ca = some ad → ad.block ≠ ga0) := ⟨fun ad had => by have := hf2.1 ad had; omega, fun ad had => by have := hf2.2 ad had; omega⟩
      refine ⟨_, rfl, hK.out _ _ hT (fun hT' => ?_)⟩
      clear hT' hS hK hb
      have hS := hT
      clear hT
      clear hd1
      simp only [z0, z1, Act.put, z3, z4, z5]
      refine tk 4 (by decide) ?_ hS (by kernel_rfl) (by kernel_rfl) (by kernel_rfl) (by rfl) (fun _ _ _ h => h) ?_ ?_
      rotate_left
      · intro W hW
        clear hW
        simp only [z0, z1]
        go_simp
        first | done | with_reducible rfl
      simp only [z0, z1, Act.put, z3, z4, z5]
      refine tk 5 (by decide) ?_ hS (by kernel_rfl) (by kernel_rfl) (by kernel_rfl) (by rfl) (fun _ _ _ h => h) ?_ ?_
      rotate_left
      · intro W hW
        clear hW
        simp only [z0, z1]
        go_simp
        first | done | with_reducible rfl
      simp only [z0, z1, Act.put, z3, z4, z5]
      refine tk 6 (by decide) ?_ hS (by kernel_rfl) (by kernel_rfl) (by kernel_rfl) (by rfl) (fun _ _ _ h => h) ?_ ?_
      rotate_left
      · intro W hW
        clear hW
        simp only [z0, z1]
        go_simp
        first | done | with_reducible rfl
      simp only [z0, z1, Act.put, z3, z4, z5]
      refine one_at 8 (by decide) (by kernel_rfl) (by rfl) (fun K hK => ?_)
      simp only [z0, z1]
      refine wp_store_row 31 _ _ rfl ga0 _ rfl rfl _ _ hN (by kernel_rfl) rfl (by simp [Value.oneCell']) ?_
      have hT : SB w5 (u2.setRow ga0 #[.int .i64 1, .int .i64 1000, .int .i64 1, .int .i64 0, .int .i64 0, .int .i64 0, .int .i64 0, .int .i64 100, .int .i64 0, .int .i64 0, .int .i64 0, .int .i64 2, .int .i64 705, .int .i64 0, .int .i64 100, .int .i64 1, .int .i64 1, .int .i64 0, .int .i64 1, .int .i64 0, .int .i64 0, .string { data := #[104, 111, 109, 101] }, .string { data := #[69, 85, 82] }, .slice da 1 dk, .slice ca 1 ck]) := Below_setRow hS hg _
      have hz : Bk.Blk (u2.setRow ga0 #[.int .i64 1, .int .i64 1000, .int .i64 1, .int .i64 0, .int .i64 0, .int .i64 0, .int .i64 0, .int .i64 100, .int .i64 0, .int .i64 0, .int .i64 0, .int .i64 2, .int .i64 705, .int .i64 0, .int .i64 100, .int .i64 1, .int .i64 1, .int .i64 0, .int .i64 1, .int .i64 0, .int .i64 0, .string { data := #[104, 111, 109, 101] }, .string { data := #[69, 85, 82] }, .slice da 1 dk, .slice ca 1 ck]) ga0 #[.int .i64 1, .int .i64 1000, .int .i64 1, .int .i64 0, .int .i64 0, .int .i64 0, .int .i64 0, .int .i64 100, .int .i64 0, .int .i64 0, .int .i64 0, .int .i64 2, .int .i64 705, .int .i64 0, .int .i64 100, .int .i64 1, .int .i64 1, .int .i64 0, .int .i64 1, .int .i64 0, .int .i64 0, .string { data := #[104, 111, 109, 101] }, .string { data := #[69, 85, 82] }, .slice da 1 dk, .slice ca 1 ck] 31 := Blk_setRow_same hN
      replace hd2 : DuesIn (u2.setRow ga0 #[.int .i64 1, .int .i64 1000, .int .i64 1, .int .i64 0, .int .i64 0, .int .i64 0, .int .i64 0, .int .i64 100, .int .i64 0, .int .i64 0, .int .i64 0, .int .i64 2, .int .i64 705, .int .i64 0, .int .i64 100, .int .i64 1, .int .i64 1, .int .i64 0, .int .i64 1, .int .i64 0, .int .i64 0, .string { data := #[104, 111, 109, 101] }, .string { data := #[69, 85, 82] }, .slice da 1 dk, .slice ca 1 ck]) da _ := dues_setRow hd2 hne.1
      replace hr2 : RowIn cenc (u2.setRow ga0 #[.int .i64 1, .int .i64 1000, .int .i64 1, .int .i64 0, .int .i64 0, .int .i64 0, .int .i64 0, .int .i64 100, .int .i64 0, .int .i64 0, .int .i64 0, .int .i64 2, .int .i64 705, .int .i64 0, .int .i64 100, .int .i64 1, .int .i64 1, .int .i64 0, .int .i64 1, .int .i64 0, .int .i64 0, .string { data := #[104, 111, 109, 101] }, .string { data := #[69, 85, 82] }, .slice da 1 dk, .slice ca 1 ck]) ca _ := row_row hr2 hne.2
      refine hK.out _ _ hT (fun hT' => ?_)
      clear hT' hS hK
      have hS := hT
      clear hT
      simp only [z0, z1, Act.put, z3, z4, z5]
      generalize (u2.setRow ga0 #[.int .i64 1, .int .i64 1000, .int .i64 1, .int .i64 0, .int .i64 0, .int .i64 0, .int .i64 0, .int .i64 100, .int .i64 0, .int .i64 0, .int .i64 0, .int .i64 2, .int .i64 705, .int .i64 0, .int .i64 100, .int .i64 1, .int .i64 1, .int .i64 0, .int .i64 1, .int .i64 0, .int .i64 0, .string { data := #[104, 111, 109, 101] }, .string { data := #[69, 85, 82] }, .slice da 1 dk, .slice ca 1 ck]) = ws at *
      refine tk 9 (by decide) ?_ hS (by kernel_rfl) (by kernel_rfl) (by kernel_rfl) (by rfl) (fun _ _ _ h => h) ?_ ?_
      rotate_left
      · intro W hW
        clear hW
        simp only [z0, z1]
        go_simp
        first | done | with_reducible rfl
      simp only [z0, z1, Act.put, z3, z4, z5]
      refine wpAnyH_done (by kernel_rfl) ?_ _
      exact KEY ws g1 ga0 da dk ca ck ⟨hS, hz, hd2, hr2⟩
  · intro w6 g1 g5 da dk ca ck ⟨hS5, k5, hd5, hr5⟩
    have cw6 := Ln.bl2 hS5 cw5
    have hSt6 := HST.out _ cw6
    replace kc := kc.later hS5
    replace kt2 := kt2.later hS5
    clear hS5 cw5 hSt5
    go_upto_region 6 with fail
    have hS0 : SB w6 w6.drew := (Below.refl _ _).drew
    apply key8_of (fun (W : World) (g1 g2 g6 : Nat) (da2 : Option Addr) (dk2 : Nat) (ca2 : Option Addr) (ck2 : Nat) => SB w6 W)
    · intro KEY
      refine wp_region_held_drew (S := SB w6) (by kernel_rfl) hS0 (fun hS => ?_)
      refine take_at 3 (by decide) (by kernel_rfl) (by kernel_rfl) (by kernel_rfl) (fun _ _ _ h => h) hS (yields_load_row (by rfl) 26 (.tmp 1) rfl w.heap.size rfl _ _ _ _ (fun W hW => (kc.later hW)) Tryz.underlying26 rfl (by kernel_rfl)) ?_
      simp only [z0, z1, Act.put, z3, z4, z5]
      refine two_at 0 8 (by decide) (by decide) (by kernel_rfl) (by rfl) (by rfl) (fun K hK => ?_) (fun K hK => ?_)
      · refine call_wp (by simp only [z0, z1]; go_simp; first | done | rfl | exact ⟨rfl, rfl⟩) ((sample_any _).mono ?_)
        rintro e u0 ⟨_, rfl, ⟨g1, rfl, hd1⟩, hb⟩
        have hT := SB.mono _ _ hS hb
        refine ⟨_, rfl, hK.out _ _ hT (fun hT' => ?_)⟩
        clear hT' hS hK hb
        have hS := hT
        clear hT
        simp only [z0, z1, Act.put, z3, z4, z5]
        refine two_at 1 8 (by decide) (by decide) (by kernel_rfl) (by rfl) (by rfl) (fun K hK => ?_) (fun K hK => ?_)
        · refine call_wp (by simp only [z0, z1]; go_simp; first | done | rfl | exact ⟨rfl, rfl⟩) ((sample_any _).mono ?_)
          rintro e u1 ⟨_, rfl, ⟨g2, rfl, hd3⟩, hb⟩
          have hT := SB.mono _ _ hS hb
          replace hd1 := hd1.later hb
          refine ⟨_, rfl, hK.out _ _ hT (fun hT' => ?_)⟩
          clear hT' hS hK hb
          have hS := hT
          clear hT
          simp only [z0, z1, Act.put, z3, z4, z5]
          refine tk 2 (by decide) ?_ hS (by kernel_rfl) (by kernel_rfl) (by kernel_rfl) (by rfl) (fun _ _ _ h => h) ?_ ?_
          rotate_left
          · intro W hW
            clear hW
            simp only [z0, z1]
            go_simp
            first | done | with_reducible rfl
          simp only [z0, z1, Act.put, z3, z4, z5]
          refine two_at 4 8 (by decide) (by decide) (by kernel_rfl) (by rfl) (by rfl) (fun K hK => ?_) (fun K hK => ?_)
          · refine call_wp (by simp only [z0, z1]; go_simp; first | done | rfl | exact ⟨rfl, rfl⟩) ((chg_e g1 _ hd1 (hSt6.of hS)).mono ?_)
            rintro e u2 ⟨_, rfl, ⟨da2, dk2, ca2, ck2, rfl⟩, hb⟩
            have hT := SB.mono _ _ hS hb
            refine ⟨_, rfl, hK.out _ _ hT (fun hT' => ?_)⟩
            clear hT' hS hK hb
            have hS := hT
            clear hT
            clear hd1
            simp only [z0, z1, Act.put, z3, z4, z5]
            refine tk 5 (by decide) ?_ hS (by kernel_rfl) (by kernel_rfl) (by kernel_rfl) (by rfl) (fun _ _ _ h => h) ?_ ?_
            rotate_left
            · intro W hW
              clear hW
              simp only [z0, z1]
              go_simp
              first | done | with_reducible rfl
            simp only [z0, z1, Act.put, z3, z4, z5]
            refine tk 6 (by decide) ?_ hS (by kernel_rfl) (by kernel_rfl) (by kernel_rfl) (by rfl) (fun _ _ _ h => h) ?_ ?_
            rotate_left
            · intro W hW
              clear hW
              simp only [z0, z1]
              go_simp
              first | done | with_reducible rfl
            simp only [z0, z1, Act.put, z3, z4, z5]
            refine tk 7 (by decide) ?_ hS (by kernel_rfl) (by kernel_rfl) (by kernel_rfl) (by rfl) (fun _ _ _ h => h) ?_ ?_
            rotate_left
            · intro W hW
              clear hW
              simp only [z0, z1]
              go_simp
              first | done | with_reducible rfl
            simp only [z0, z1, Act.put, z3, z4, z5]
            refine one_at 8 (by decide) (by kernel_rfl) (by rfl) (fun K hK => ?_)
            refine value_wp (by simp only [z0, z1]; go_simp; first | done | rfl | exact ⟨rfl, rfl⟩) ?_
            have hX : Below u2.heap.size u2 (u2.alloc (.cells #[.int .i64 0, .int .i64 0, .int .i64 0, .int .i64 0, .int .i64 0, .int .i64 0, .int .i64 0, .int .i64 0, .int .i64 0, .int .i64 0, .int .i64 0, .int .i64 0, .int .i64 0, .int .i64 0, .int .i64 0, .int .i64 0, .int .i64 0, .int .i64 0, .int .i64 0, .int .i64 0, .int .i64 0, .string { data := #[] }, .string { data := #[] }, .slice none 0 0, .slice none 0 0] 31)) := (Below.refl _ _).alloc (Nat.le_refl _) _
            have hT : SB w6 (u2.alloc (.cells #[.int .i64 0, .int .i64 0, .int .i64 0, .int .i64 0, .int .i64 0, .int .i64 0, .int .i64 0, .int .i64 0, .int .i64 0, .int .i64 0, .int .i64 0, .int .i64 0, .int .i64 0, .int .i64 0, .int .i64 0, .int .i64 0, .int .i64 0, .int .i64 0, .int .i64 0, .int .i64 0, .int .i64 0, .string { data := #[] }, .string { data := #[] }, .slice none 0 0, .slice none 0 0] 31)) := SB.mono _ _ hS hX
            have hN : Bk.Blk (u2.alloc (.cells #[.int .i64 0, .int .i64 0, .int .i64 0, .int .i64 0, .int .i64 0, .int .i64 0, .int .i64 0, .int .i64 0, .int .i64 0, .int .i64 0, .int .i64 0, .int .i64 0, .int .i64 0, .int .i64 0, .int .i64 0, .int .i64 0, .int .i64 0, .int .i64 0, .int .i64 0, .int .i64 0, .int .i64 0, .string { data := #[] }, .string { data := #[] }, .slice none 0 0, .slice none 0 0] 31)) u2.heap.size #[.int .i64 0, .int .i64 0, .int .i64 0, .int .i64 0, .int .i64 0, .int .i64 0, .int .i64 0, .int .i64 0, .int .i64 0, .int .i64 0, .int .i64 0, .int .i64 0, .int .i64 0, .int .i64 0, .int .i64 0, .int .i64 0, .int .i64 0, .int .i64 0, .int .i64 0, .int .i64 0, .int .i64 0, .string { data := #[] }, .string { data := #[] }, .slice none 0 0, .slice none 0 0] 31 := Bk.Blk.nw10
            have hg : w6.heap.size ≤ u2.heap.size := Below.size hS
            have hlt := hN.lt
            refine hK.out _ _ hT (fun hT' => ?_)
            clear hT' hS hK hX
            have hS := hT
            clear hT
            simp only [z0, z1, Act.put, z3, z4, z5]
            generalize (u2.alloc (.cells #[.int .i64 0, .int .i64 0, .int .i64 0, .int .i64 0, .int .i64 0, .int .i64 0, .int .i64 0, .int .i64 0, .int .i64 0, .int .i64 0, .int .i64 0, .int .i64 0, .int .i64 0, .int .i64 0, .int .i64 0, .int .i64 0, .int .i64 0, .int .i64 0, .int .i64 0, .int .i64 0, .int .i64 0, .string { data := #[] }, .string { data := #[] }, .slice none 0 0, .slice none 0 0] 31)) = v3 at *
            obtain ⟨ga3, eg⟩ : ∃ g, g = u2.heap.size := ⟨_, rfl⟩
            rw [← eg] at hN hlt ⊢
            replace hg : w6.heap.size ≤ ga3 := by omega
            clear eg
            refine one_at 9 (by decide) (by kernel_rfl) (by rfl) (fun K hK => ?_)
            simp only [z0, z1]
            refine wp_store_row 31 _ _ rfl ga3 _ rfl rfl _ _ hN (by kernel_rfl) rfl (by simp [Value.oneCell']) ?_
            have hT : SB w6 (v3.setRow ga3 #[.int .i64 0, .int .i64 0, .int .i64 0, .int .i64 0, .int .i64 0, .int .i64 0, .int .i64 0, .int .i64 0, .int .i64 0, .int .i64 0, .int .i64 0, .int .i64 0, .int .i64 0, .int .i64 0, .int .i64 0, .int .i64 0, .int .i64 0, .int .i64 0, .int .i64 0, .int .i64 0, .int .i64 0, .string { data := #[] }, .string { data := #[] }, .slice da2 0 dk2, .slice ca2 0 ck2]) := Below_setRow hS hg _
            have hz : Bk.Blk (v3.setRow ga3 #[.int .i64 0, .int .i64 0, .int .i64 0, .int .i64 0, .int .i64 0, .int .i64 0, .int .i64 0, .int .i64 0, .int .i64 0, .int .i64 0, .int .i64 0, .int .i64 0, .int .i64 0, .int .i64 0, .int .i64 0, .int .i64 0, .int .i64 0, .int .i64 0, .int .i64 0, .int .i64 0, .int .i64 0, .string { data := #[] }, .string { data := #[] }, .slice da2 0 dk2, .slice ca2 0 ck2]) ga3 #[.int .i64 0, .int .i64 0, .int .i64 0, .int .i64 0, .int .i64 0, .int .i64 0, .int .i64 0, .int .i64 0, .int .i64 0, .int .i64 0, .int .i64 0, .int .i64 0, .int .i64 0, .int .i64 0, .int .i64 0, .int .i64 0, .int .i64 0, .int .i64 0, .int .i64 0, .int .i64 0, .int .i64 0, .string { data := #[] }, .string { data := #[] }, .slice da2 0 dk2, .slice ca2 0 ck2] 31 := Blk_setRow_same hN
            refine hK.out _ _ hT (fun hT' => ?_)
            clear hT' hS hK
            have hS := hT
            clear hT
            simp only [z0, z1, Act.put, z3, z4, z5]
            generalize (v3.setRow ga3 #[.int .i64 0, .int .i64 0, .int .i64 0, .int .i64 0, .int .i64 0, .int .i64 0, .int .i64 0, .int .i64 0, .int .i64 0, .int .i64 0, .int .i64 0, .int .i64 0, .int .i64 0, .int .i64 0, .int .i64 0, .int .i64 0, .int .i64 0, .int .i64 0, .int .i64 0, .int .i64 0, .int .i64 0, .string { data := #[] }, .string { data := #[] }, .slice da2 0 dk2, .slice ca2 0 ck2]) = ws at *
            refine tk 10 (by decide) ?_ hS (by kernel_rfl) (by kernel_rfl) (by kernel_rfl) (by rfl) (fun _ _ _ h => h) ?_ ?_
            rotate_left
            · intro W hW
              clear hW
              simp only [z0, z1]
              go_simp
              first | done | with_reducible rfl
            simp only [z0, z1, Act.put, z3, z4, z5]
            refine wpAnyH_done (by kernel_rfl) ?_ _
            exact KEY ws g1 g2 ga3 da2 dk2 ca2 ck2 hS
          · refine value_wp (by simp only [z0, z1]; go_simp; first | done | rfl | exact ⟨rfl, rfl⟩) ?_
            have hX : Below u1.heap.size u1 (u1.alloc (.cells #[.int .i64 0, .int .i64 0, .int .i64 0, .int .i64 0, .int .i64 0, .int .i64 0, .int .i64 0, .int .i64 0, .int .i64 0, .int .i64 0, .int .i64 0, .int .i64 0, .int .i64 0, .int .i64 0, .int .i64 0, .int .i64 0, .int .i64 0, .int .i64 0, .int .i64 0, .int .i64 0, .int .i64 0, .string { data := #[] }, .string { data := #[] }, .slice none 0 0, .slice none 0 0] 31)) := (Below.refl _ _).alloc (Nat.le_refl _) _
            have hT : SB w6 (u1.alloc (.cells #[.int .i64 0, .int .i64 0, .int .i64 0, .int .i64 0, .int .i64 0, .int .i64 0, .int .i64 0, .int .i64 0, .int .i64 0, .int .i64 0, .int .i64 0, .int .i64 0, .int .i64 0, .int .i64 0, .int .i64 0, .int .i64 0, .int .i64 0, .int .i64 0, .int .i64 0, .int .i64 0, .int .i64 0, .string { data := #[] }, .string { data := #[] }, .slice none 0 0, .slice none 0 0] 31)) := SB.mono _ _ hS hX
            have hN : Bk.Blk (u1.alloc (.cells #[.int .i64 0, .int .i64 0, .int .i64 0, .int .i64 0, .int .i64 0, .int .i64 0, .int .i64 0, .int .i64 0, .int .i64 0, .int .i64 0, .int .i64 0, .int .i64 0, .int .i64 0, .int .i64 0, .int .i64 0, .int .i64 0, .int .i64 0, .int .i64 0, .int .i64 0, .int .i64 0, .int .i64 0, .string { data := #[] }, .string { data := #[] }, .slice none 0 0, .slice none 0 0] 31)) u1.heap.size #[.int .i64 0, .int .i64 0, .int .i64 0, .int .i64 0, .int .i64 0, .int .i64 0, .int .i64 0, .int .i64 0, .int .i64 0, .int .i64 0, .int .i64 0, .int .i64 0, .int .i64 0, .int .i64 0, .int .i64 0, .int .i64 0, .int .i64 0, .int .i64 0, .int .i64 0, .int .i64 0, .int .i64 0, .string { data := #[] }, .string { data := #[] }, .slice none 0 0, .slice none 0 0] 31 := Bk.Blk.nw10
            have hg : w6.heap.size ≤ u1.heap.size := Below.size hS
            have hlt := hN.lt
            replace hd1 := hd1.later hX
            refine hK.out _ _ hT (fun hT' => ?_)
            clear hT' hS hK hX
            have hS := hT
            clear hT
            simp only [z0, z1, Act.put, z3, z4, z5]
            generalize (u1.alloc (.cells #[.int .i64 0, .int .i64 0, .int .i64 0, .int .i64 0, .int .i64 0, .int .i64 0, .int .i64 0, .int .i64 0, .int .i64 0, .int .i64 0, .int .i64 0, .int .i64 0, .int .i64 0, .int .i64 0, .int .i64 0, .int .i64 0, .int .i64 0, .int .i64 0, .int .i64 0, .int .i64 0, .int .i64 0, .string { data := #[] }, .string { data := #[] }, .slice none 0 0, .slice none 0 0] 31)) = v2 at *
            obtain ⟨ga2, eg⟩ : ∃ g, g = u1.heap.size := ⟨_, rfl⟩
            rw [← eg] at hN hlt ⊢
            replace hg : w6.heap.size ≤ ga2 := by omega
            clear eg
            refine one_at 4 (by decide) (by kernel_rfl) (by rfl) (fun K hK => ?_)
            refine call_wp (by simp only [z0, z1]; go_simp; first | done | rfl | exact ⟨rfl, rfl⟩) ((chg_e g1 _ hd1 (hSt6.of hS)).mono ?_)
            rintro e u3 ⟨_, rfl, ⟨da2, dk2, ca2, ck2, rfl⟩, hb⟩
            have hT := SB.mono _ _ hS hb
            replace hN := hN.later hb
            refine ⟨_, rfl, hK.out _ _ hT (fun hT' => ?_)⟩
            clear hT' hS hK hb
            have hS := hT
            clear hT
            clear hd1
            simp only [z0, z1, Act.put, z3, z4, z5]
            refine tk 5 (by decide) ?_ hS (by kernel_rfl) (by kernel_rfl) (by kernel_rfl) (by rfl) (fun _ _ _ h => h) ?_ ?_
            rotate_left
            · intro W hW
              clear hW
              simp only [z0, z1]
              go_simp
              first | done | with_reducible rfl
            simp only [z0, z1, Act.put, z3, z4, z5]
            refine tk 6 (by decide) ?_ hS (by kernel_rfl) (by kernel_rfl) (by kernel_rfl) (by rfl) (fun _ _ _ h => h) ?_ ?_
            rotate_left
            · intro W hW
              clear hW
              simp only [z0, z1]
              go_simp
              first | done | with_reducible rfl
            simp only [z0, z1, Act.put, z3, z4, z5]
            refine tk 7 (by decide) ?_ hS (by kernel_rfl) (by kernel_rfl) (by kernel_rfl) (by rfl) (fun _ _ _ h => h) ?_ ?_
            rotate_left
            · intro W hW
              clear hW
              simp only [z0, z1]
              go_simp
              first | done | with_reducible rfl
            simp only [z0, z1, Act.put, z3, z4, z5]
            refine one_at 9 (by decide) (by kernel_rfl) (by rfl) (fun K hK => ?_)
            simp only [z0, z1]
            refine wp_store_row 31 _ _ rfl ga2 _ rfl rfl _ _ hN (by kernel_rfl) rfl (by simp [Value.oneCell']) ?_
            have hT : SB w6 (u3.setRow ga2 #[.int .i64 0, .int .i64 0, .int .i64 0, .int .i64 0, .int .i64 0, .int .i64 0, .int .i64 0, .int .i64 0, .int .i64 0, .int .i64 0, .int .i64 0, .int .i64 0, .int .i64 0, .int .i64 0, .int .i64 0, .int .i64 0, .int .i64 0, .int .i64 0, .int .i64 0, .int .i64 0, .int .i64 0, .string { data := #[] }, .string { data := #[] }, .slice da2 0 dk2, .slice ca2 0 ck2]) := Below_setRow hS hg _
            have hz : Bk.Blk (u3.setRow ga2 #[.int .i64 0, .int .i64 0, .int .i64 0, .int .i64 0, .int .i64 0, .int .i64 0, .int .i64 0, .int .i64 0, .int .i64 0, .int .i64 0, .int .i64 0, .int .i64 0, .int .i64 0, .int .i64 0, .int .i64 0, .int .i64 0, .int .i64 0, .int .i64 0, .int .i64 0, .int .i64 0, .int .i64 0, .string { data := #[] }, .string { data := #[] }, .slice da2 0 dk2, .slice ca2 0 ck2]) ga2 #[.int .i64 0, .int .i64 0, .int .i64 0, .int .i64 0, .int .i64 0, .int .i64 0, .int .i64 0, .int .i64 0, .int .i64 0, .int .i64 0, .int .i64 0, .int .i64 0, .int .i64 0, .int .i64 0, .int .i64 0, .int .i64 0, .int .i64 0, .int .i64 0, .int .i64 0, .int .i64 0, .int .i64 0, .string { data := #[] }, .string { data := #[] }, .slice da2 0 dk2, .slice ca2 0 ck2] 31 := Blk_setRow_same hN
            refine hK.out _ _ hT (fun hT' => ?_)
            clear hT' hS hK
            have hS := hT
            clear hT
            simp only [z0, z1, Act.put, z3, z4, z5]
            generalize (u3.setRow ga2 #[.int .i64 0, .int .i64 0, .int .i64 0, .int .i64 0, .int .i64 0, .int .i64 0, .int .i64 0, .int .i64 0, .int .i64 0, .int .i64 0, .int .i64 0, .int .i64 0, .int .i64 0, .int .i64 0, .int .i64 0, .int .i64 0, .int .i64 0, .int .i64 0, .int .i64 0, .int .i64 0, .int .i64 0, .string { data := #[] }, .string { data := #[] }, .slice da2 0 dk2, .slice ca2 0 ck2]) = ws at *
            refine tk 10 (by decide) ?_ hS (by kernel_rfl) (by kernel_rfl) (by kernel_rfl) (by rfl) (fun _ _ _ h => h) ?_ ?_
            rotate_left
            · intro W hW
              clear hW
              simp only [z0, z1]
              go_simp
              first | done | with_reducible rfl
            simp only [z0, z1, Act.put, z3, z4, z5]
            refine wpAnyH_done (by kernel_rfl) ?_ _
            exact KEY ws g1 g2 ga2 da2 dk2 ca2 ck2 hS
        · refine value_wp (by simp only [z0, z1]; go_simp; first | done | rfl | exact ⟨rfl, rfl⟩) ?_
          have hX : Below u0.heap.size u0 (u0.alloc (.cells #[.int .i64 0, .int .i64 0, .int .i64 0, .int .i64 0, .int .i64 0, .int .i64 0, .int .i64 0, .int .i64 0, .int .i64 0, .int .i64 0, .int .i64 0, .int .i64 0, .int .i64 0, .int .i64 0, .int .i64 0, .int .i64 0, .int .i64 0, .int .i64 0, .int .i64 0, .int .i64 0, .int .i64 0, .string { data := #[] }, .string { data := #[] }, .slice none 0 0, .slice none 0 0] 31)) := (Below.refl _ _).alloc (Nat.le_refl _) _
          have hT : SB w6 (u0.alloc (.cells #[.int .i64 0, .int .i64 0, .int .i64 0, .int .i64 0, .int .i64 0, .int .i64 0, .int .i64 0, .int .i64 0, .int .i64 0, .int .i64 0, .int .i64 0, .int .i64 0, .int .i64 0, .int .i64 0, .int .i64 0, .int .i64 0, .int .i64 0, .int .i64 0, .int .i64 0, .int .i64 0, .int .i64 0, .string { data := #[] }, .string { data := #[] }, .slice none 0 0, .slice none 0 0] 31)) := SB.mono _ _ hS hX
          have hN : Bk.Blk (u0.alloc (.cells #[.int .i64 0, .int .i64 0, .int .i64 0, .int .i64 0, .int .i64 0, .int .i64 0, .int .i64 0, .int .i64 0, .int .i64 0, .int .i64 0, .int .i64 0, .int .i64 0, .int .i64 0, .int .i64 0, .int .i64 0, .int .i64 0, .int .i64 0, .int .i64 0, .int .i64 0, .int .i64 0, .int .i64 0, .string { data := #[] }, .string { data := #[] }, .slice none 0 0, .slice none 0 0] 31)) u0.heap.size #[.int .i64 0, .int .i64 0, .int .i64 0, .int .i64 0, .int .i64 0, .int .i64 0, .int .i64 0, .int .i64 0, .int .i64 0, .int .i64 0, .int .i64 0, .int .i64 0, .int .i64 0, .int .i64 0, .int .i64 0, .int .i64 0, .int .i64 0, .int .i64 0, .int .i64 0, .int .i64 0, .int .i64 0, .string { data := #[] }, .string { data := #[] }, .slice none 0 0, .slice none 0 0] 31 := Bk.Blk.nw10
          have hg : w6.heap.size ≤ u0.heap.size := Below.size hS
          have hlt := hN.lt
          replace hd1 := hd1.later hX
          refine hK.out _ _ hT (fun hT' => ?_)
          clear hT' hS hK hX
          have hS := hT
          clear hT
          simp only [z0, z1, Act.put, z3, z4, z5]
          generalize (u0.alloc (.cells #[.int .i64 0, .int .i64 0, .int .i64 0, .int .i64 0, .int .i64 0, .int .i64 0, .int .i64 0, .int .i64 0, .int .i64 0, .int .i64 0, .int .i64 0, .int .i64 0, .int .i64 0, .int .i64 0, .int .i64 0, .int .i64 0, .int .i64 0, .int .i64 0, .int .i64 0, .int .i64 0, .int .i64 0, .string { data := #[] }, .string { data := #[] }, .slice none 0 0, .slice none 0 0] 31)) = v1 at *
          obtain ⟨ga1, eg⟩ : ∃ g, g = u0.heap.size := ⟨_, rfl⟩
          rw [← eg] at hN hlt ⊢
          replace hg : w6.heap.size ≤ ga1 := by omega
          clear eg
          refine one_at 1 (by decide) (by kernel_rfl) (by rfl) (fun K hK => ?_)
          refine call_wp (by simp only [z0, z1]; go_simp; first | done | rfl | exact ⟨rfl, rfl⟩) ((sample_any _).mono ?_)
          rintro e u2 ⟨_, rfl, ⟨g2, rfl, hd3⟩, hb⟩
          have hT := SB.mono _ _ hS hb
          replace hd1 := hd1.later hb
          replace hN := hN.later hb
          refine ⟨_, rfl, hK.out _ _ hT (fun hT' => ?_)⟩
          clear hT' hS hK hb
          have hS := hT
          clear hT
          simp only [z0, z1, Act.put, z3, z4, z5]
          refine tk 2 (by decide) ?_ hS (by kernel_rfl) (by kernel_rfl) (by kernel_rfl) (by rfl) (fun _ _ _ h => h) ?_ ?_
          rotate_left
          · intro W hW
            clear hW
            simp only [z0, z1]
            go_simp
            first | done | with_reducible rfl
          simp only [z0, z1, Act.put, z3, z4, z5]
          refine one_at 4 (by decide) (by kernel_rfl) (by rfl) (fun K hK => ?_)
          refine call_wp (by simp only [z0, z1]; go_simp; first | done | rfl | exact ⟨rfl, rfl⟩) ((chg_e g1 _ hd1 (hSt6.of hS)).mono ?_)
          rintro e u3 ⟨_, rfl, ⟨da2, dk2, ca2, ck2, rfl⟩, hb⟩
          have hT := SB.mono _ _ hS hb
          replace hN := hN.later hb
          refine ⟨_, rfl, hK.out _ _ hT (fun hT' => ?_)⟩
          clear hT' hS hK hb
          have hS := hT
          clear hT
          clear hd1
          simp only [z0, z1, Act.put, z3, z4, z5]
          refine tk 5 (by decide) ?_ hS (by kernel_rfl) (by kernel_rfl) (by kernel_rfl) (by rfl) (fun _ _ _ h => h) ?_ ?_
          rotate_left
          · intro W hW
            clear hW
            simp only [z0, z1]
            go_simp
            first | done | with_reducible rfl
          simp only [z0, z1, Act.put, z3, z4, z5]
          refine tk 6 (by decide) ?_ hS (by kernel_rfl) (by kernel_rfl) (by kernel_rfl) (by rfl) (fun _ _ _ h => h) ?_ ?_
          rotate_left
          · intro W hW
            clear hW
            simp only [z0, z1]
            go_simp
            first | done | with_reducible rfl
          simp only [z0, z1, Act.put, z3, z4, z5]
          refine tk 7 (by decide) ?_ hS (by kernel_rfl) (by kernel_rfl) (by kernel_rfl) (by rfl) (fun _ _ _ h => h) ?_ ?_
          rotate_left
          · intro W hW
            clear hW
            simp only [z0, z1]
            go_simp
            first | done | with_reducible rfl
          simp only [z0, z1, Act.put, z3, z4, z5]
          refine one_at 9 (by decide) (by kernel_rfl) (by rfl) (fun K hK => ?_)
          simp only [z0, z1]
          refine wp_store_row 31 _ _ rfl ga1 _ rfl rfl _ _ hN (by kernel_rfl) rfl (by simp [Value.oneCell']) ?_
          have hT : SB w6 (u3.setRow ga1 #[.int .i64 0, .int .i64 0, .int .i64 0, .int .i64 0, .int .i64 0, .int .i64 0, .int .i64 0, .int .i64 0, .int .i64 0, .int .i64 0, .int .i64 0, .int .i64 0, .int .i64 0, .int .i64 0, .int .i64 0, .int .i64 0, .int .i64 0, .int .i64 0, .int .i64 0, .int .i64 0, .int .i64 0, .string { data := #[] }, .string { data := #[] }, .slice da2 0 dk2, .slice ca2 0 ck2]) := Below_setRow hS hg _
          have hz : Bk.Blk (u3.setRow ga1 #[.int .i64 0, .int .i64 0, .int .i64 0, .int .i64 0, .int .i64 0, .int .i64 0, .int .i64 0, .int .i64 0, .int .i64 0, .int .i64 0, .int .i64 0, .int .i64 0, .int .i64 0, .int .i64 0, .int .i64 0, .int .i64 0, .int .i64 0, .int .i64 0, .int .i64 0, .int .i64 0, .int .i64 0, .string { data := #[] }, .string { data := #[] }, .slice da2 0 dk2, .slice ca2 0 ck2]) ga1 #[.int .i64 0, .int .i64 0, .int .i64 0, .int .i64 0, .int .i64 0, .int .i64 0, .int .i64 0, .int .i64 0, .int .i64 0, .int .i64 0, .int .i64 0, .int .i64 0, .int .i64 0, .int .i64 0, .int .i64 0, .int .i64 0, .int .i64 0, .int .i64 0, .int .i64 0, .int .i64 0, .int .i64 0, .string { data := #[] }, .string { data := #[] }, .slice da2 0 dk2, .slice ca2 0 ck2] 31 := Blk_setRow_same hN
          refine hK.out _ _ hT (fun hT' => ?_)
          clear hT' hS hK
          have hS := hT
          clear hT
          simp only [z0, z1, Act.put, z3, z4, z5]
          generalize (u3.setRow ga1 #[.int .i64 0, .int .i64 0, .int .i64 0, .int .i64 0, .int .i64 0, .int .i64 0, .int .i64 0, .int .i64 0, .int .i64 0, .int .i64 0, .int .i64 0, .int .i64 0, .int .i64 0, .int .i64 0, .int .i64 0, .int .i64 0, .int .i64 0, .int .i64 0, .int .i64 0, .int .i64 0, .int .i64 0, .string { data := #[] }, .string { data := #[] }, .slice da2 0 dk2, .slice ca2 0 ck2]) = ws at *
          refine tk 10 (by decide) ?_ hS (by kernel_rfl) (by kernel_rfl) (by kernel_rfl) (by rfl) (fun _ _ _ h => h) ?_ ?_
          rotate_left
          · intro W hW
            clear hW
            simp only [z0, z1]
            go_simp
            first | done | with_reducible rfl
          simp only [z0, z1, Act.put, z3, z4, z5]
          refine wpAnyH_done (by kernel_rfl) ?_ _
          exact KEY ws g1 g2 ga1 da2 dk2 ca2 ck2 hS
      · refine value_wp (by simp only [z0, z1]; go_simp; first | done | rfl | exact ⟨rfl, rfl⟩) ?_
        have hT : SB w6 ((w6.alloc (.cells #[.int .i64 0, .int .i64 0, .int .i64 0, .int .i64 0, .int .i64 0, .int .i64 0, .int .i64 0, .int .i64 0, .int .i64 0, .int .i64 0, .int .i64 0, .int .i64 0, .int .i64 0, .int .i64 0, .int .i64 0, .int .i64 0, .int .i64 0, .int .i64 0, .int .i64 0, .int .i64 0, .int .i64 0, .string { data := #[] }, .string { data := #[] }, .slice none 0 0, .slice none 0 0] 31)).drew) := ((Below.refl _ _).alloc (Nat.le_refl _) _).drew
        have hX := hT
        have hN : Bk.Blk ((w6.alloc (.cells #[.int .i64 0, .int .i64 0, .int .i64 0, .int .i64 0, .int .i64 0, .int .i64 0, .int .i64 0, .int .i64 0, .int .i64 0, .int .i64 0, .int .i64 0, .int .i64 0, .int .i64 0, .int .i64 0, .int .i64 0, .int .i64 0, .int .i64 0, .int .i64 0, .int .i64 0, .int .i64 0, .int .i64 0, .string { data := #[] }, .string { data := #[] }, .slice none 0 0, .slice none 0 0] 31)).drew) w6.heap.size #[.int .i64 0, .int .i64 0, .int .i64 0, .int .i64 0, .int .i64 0, .int .i64 0, .int .i64 0, .int .i64 0, .int .i64 0, .int .i64 0, .int .i64 0, .int .i64 0, .int .i64 0, .int .i64 0, .int .i64 0, .int .i64 0, .int .i64 0, .int .i64 0, .int .i64 0, .int .i64 0, .int .i64 0, .string { data := #[] }, .string { data := #[] }, .slice none 0 0, .slice none 0 0] 31 := Bk.Blk.drew Bk.Blk.nw10
        have hg : w6.heap.size ≤ w6.heap.size := Nat.le_refl _
        have hlt := hN.lt
        refine hK.out _ _ hT (fun hT' => ?_)
        clear hT' hS hK hX
        have hS := hT
        clear hT
        simp only [z0, z1, Act.put, z3, z4, z5]
        generalize ((w6.alloc (.cells #[.int .i64 0, .int .i64 0, .int .i64 0, .int .i64 0, .int .i64 0, .int .i64 0, .int .i64 0, .int .i64 0, .int .i64 0, .int .i64 0, .int .i64 0, .int .i64 0, .int .i64 0, .int .i64 0, .int .i64 0, .int .i64 0, .int .i64 0, .int .i64 0, .int .i64 0, .int .i64 0, .int .i64 0, .string { data := #[] }, .string { data := #[] }, .slice none 0 0, .slice none 0 0] 31)).drew) = v0 at *
        obtain ⟨ga0, eg⟩ : ∃ g, g = w6.heap.size := ⟨_, rfl⟩
        rw [← eg] at hN hlt ⊢
        replace hg : w6.heap.size ≤ ga0 := by omega
        clear eg
        refine one_at 0 (by decide) (by kernel_rfl) (by rfl) (fun K hK => ?_)
        refine call_wp (by simp only [z0, z1]; go_simp; first | done | rfl | exact ⟨rfl, rfl⟩) ((sample_any _).mono ?_)
        rintro e u1 ⟨_, rfl, ⟨g1, rfl, hd1⟩, hb⟩
        have hT := SB.mono _ _ hS hb
        replace hN := hN.later hb
        refine ⟨_, rfl, hK.out _ _ hT (fun hT' => ?_)⟩
        clear hT' hS hK hb
        have hS := hT
        clear hT
        simp only [z0, z1, Act.put, z3, z4, z5]
        refine one_at 1 (by decide) (by kernel_rfl) (by rfl) (fun K hK => ?_)
        refine call_wp (by simp only [z0, z1]; go_simp; first | done | rfl | exact ⟨rfl, rfl⟩) ((sample_any _).mono ?_)
        rintro e u2 ⟨_, rfl, ⟨g2, rfl, hd3⟩, hb⟩
        have hT := SB.mono _ _ hS hb
        replace hd1 := hd1.later hb
        replace hN := hN.later hb
        refine ⟨_, rfl, hK.out _ _ hT (fun hT' => ?_)⟩
        clear hT' hS hK hb
        have hS := hT
        clear hT
        simp only [z0, z1, Act.put, z3, z4, z5]
        refine tk 2 (by decide) ?_ hS (by kernel_rfl) (by kernel_rfl) (by kernel_rfl) (by rfl) (fun _ _ _ h => h) ?_ ?_
        rotate_left
        · intro W hW
          clear hW
          simp only [z0, z1]
          go_simp
          first | done | with_reducible rfl
        simp only [z0, z1, Act.put, z3, z4, z5]
        refine one_at 4 (by decide) (by kernel_rfl) (by rfl) (fun K hK => ?_)
        refine call_wp (by simp only [z0, z1]; go_simp; first | done | rfl | exact ⟨rfl, rfl⟩) ((chg_e g1 _ hd1 (hSt6.of hS)).mono ?_)
        rintro e u3 ⟨_, rfl, ⟨da2, dk2, ca2, ck2, rfl⟩, hb⟩
        have hT := SB.mono _ _ hS hb
        replace hN := hN.later hb
        refine ⟨_, rfl, hK.out _ _ hT (fun hT' => ?_)⟩
        clear hT' hS hK hb
        have hS := hT
        clear hT
        clear hd1
        simp only [z0, z1, Act.put, z3, z4, z5]
        refine tk 5 (by decide) ?_ hS (by kernel_rfl) (by kernel_rfl) (by kernel_rfl) (by rfl) (fun _ _ _ h => h) ?_ ?_
        rotate_left
        · intro W hW
          clear hW
          simp only [z0, z1]
          go_simp
          first | done | with_reducible rfl
        simp only [z0, z1, Act.put, z3, z4, z5]
        refine tk 6 (by decide) ?_ hS (by kernel_rfl) (by kernel_rfl) (by kernel_rfl) (by rfl) (fun _ _ _ h => h) ?_ ?_
        rotate_left
        · intro W hW
          clear hW
          simp only [z0, z1]
          go_simp
          first | done | with_reducible rfl
        simp only [z0, z1, Act.put, z3, z4, z5]
        refine tk 7 (by decide) ?_ hS (by kernel_rfl) (by kernel_rfl) (by kernel_rfl) (by rfl) (fun _ _ _ h => h) ?_ ?_
        rotate_left
        · intro W hW
          clear hW
          simp only [z0, z1]
          go_simp
          first | done | with_reducible rfl
        simp only [z0, z1, Act.put, z3, z4, z5]
        refine one_at 9 (by decide) (by kernel_rfl) (by rfl) (fun K hK => ?_)
        simp only [z0, z1]
        refine wp_store_row 31 _ _ rfl ga0 _ rfl rfl _ _ hN (by kernel_rfl) rfl (by simp [Value.oneCell']) ?_
        have hT : SB w6 (u3.setRow ga0 #[.int .i64 0, .int .i64 0, .int .i64 0, .int .i64 0, .int .i64 0, .int .i64 0, .int .i64 0, .int .i64 0, .int .i64 0, .int .i64 0, .int .i64 0, .int .i64 0, .int .i64 0, .int .i64 0, .int .i64 0, .int .i64 0, .int .i64 0, .int .i64 0, .int .i64 0, .int .i64 0, .int .i64 0, .string { data := #[] }, .string { data := #[] }, .slice da2 0 dk2, .slice ca2 0 ck2]) := Below_setRow hS hg _
        have hz : Bk.Blk (u3.setRow ga0 #[.int .i64 0, .int .i64 0, .int .i64 0, .int .i64 0, .int .i64 0, .int .i64 0, .int .i64 0, .int .i64 0, .int .i64 0, .int .i64 0, .int .i64 0, .int .i64 0, .int .i64 0, .int .i64 0, .int .i64 0, .int .i64 0, .int .i64 0, .int .i64 0, .int .i64 0, .int .i64 0, .int .i64 0, .string { data := #[] }, .string { data := #[] }, .slice da2 0 dk2, .slice ca2 0 ck2]) ga0 #[.int .i64 0, .int .i64 0, .int .i64 0, .int .i64 0, .int .i64 0, .int .i64 0, .int .i64 0, .int .i64 0, .int .i64 0, .int .i64 0, .int .i64 0, .int .i64 0, .int .i64 0, .int .i64 0, .int .i64 0, .int .i64 0, .int .i64 0, .int .i64 0, .int .i64 0, .int .i64 0, .int .i64 0, .string { data := #[] }, .string { data := #[] }, .slice da2 0 dk2, .slice ca2 0 ck2] 31 := Blk_setRow_same hN
        refine hK.out _ _ hT (fun hT' => ?_)
        clear hT' hS hK
        have hS := hT
        clear hT
        simp only [z0, z1, Act.put, z3, z4, z5]
        generalize (u3.setRow ga0 #[.int .i64 0, .int .i64 0, .int .i64 0, .int .i64 0, .int .i64 0, .int .i64 0, .int .i64 0, .int .i64 0, .int .i64 0, .int .i64 0, .int .i64 0, .int .i64 0, .int .i64 0, .int .i64 0, .int .i64 0, .int .i64 0, .int .i64 0, .int .i64 0, .int .i64 0, .int .i64 0, .int .i64 0, .string { data := #[] }, .string { data := #[] }, .slice da2 0 dk2, .slice ca2 0 ck2]) = ws at *
        refine tk 10 (by decide) ?_ hS (by kernel_rfl) (by kernel_rfl) (by kernel_rfl) (by rfl) (fun _ _ _ h => h) ?_ ?_
        rotate_left
        · intro W hW
          clear hW
          simp only [z0, z1]
          go_simp
          first | done | with_reducible rfl
        simp only [z0, z1, Act.put, z3, z4, z5]
        refine wpAnyH_done (by kernel_rfl) ?_ _
        exact KEY ws g1 g2 ga0 da2 dk2 ca2 ck2 hS
    · intro w7 g1 g2 g6 da2 dk2 ca2 ck2 hS6
      have cw7 := Ln.bl2 hS6 cw6
      replace kt2 := kt2.later hS6
      replace k5 := k5.later hS6
      replace hd5 := hd5.later hS6
      replace hr5 := hr5.later hS6
      clear hS6 cw6 hSt6 kc
      obtain ⟨b2, o2, rfl, hc2⟩ := hd5.2 (by decide)
      have q2 : w7.cell? ⟨b2, o2 + 2, none⟩ = some (.int .i64 705) := (hc2 0 (by decide)).2.2.1
      obtain ⟨b3, o3, rfl, hc3⟩ := hr5.mid cenc_len (by decide)
      have q3 : w7.cell? ⟨b3, o3 + 1, none⟩ = some (.int .i64 705) := by have := hc3 0 (by decide) 1 _ rfl; simpa using this
      have km : w7.rangeAt g5 11 [.int .i64 2, .int .i64 705, .int .i64 0, .int .i64 100, .int .i64 1, .int .i64 1, .int .i64 0, .int .i64 1, .int .i64 0, .int .i64 0, .string { data := #[104, 111, 109, 101] }, .string { data := #[69, 85, 82] }] := fun j u hj => by
        have := (List.getElem?_eq_some_iff.1 hj).1
        simp only [List.length_cons, List.length_nil] at this
        rw [k5.cell]
        have : j = 0 ∨ j = 1 ∨ j = 2 ∨ j = 3 ∨ j = 4 ∨ j = 5 ∨ j = 6 ∨ j = 7 ∨ j = 8 ∨ j = 9 ∨ j = 10 ∨ j = 11 := by omega
        rcases this with rfl | rfl | rfl | rfl | rfl | rfl | rfl | rfl | rfl | rfl | rfl | rfl <;> exact hj
      have HM := Lib.hid (fun W (hW : SB w7 W) => rangeAt_later hW km)
      have HQ2 := Lib.hid (fun W (hW : SB w7 W) => cell_later hW q2)
      have HQ3 := Lib.hid (fun W (hW : SB w7 W) => cell_later hW q3)
      have HR := Lib.hid (fun W (hW : SB w7 W) => hr5.later hW)
      clear hc2 hc3 q2 q3 km hd5 hr5
      go_upto_region 7 with fail
      simp only [List.append_eq, List.cons_append, List.nil_append]
      have hS0 : SB w7 w7.drew := (Below.refl _ _).drew
      refine wp_region_held_drew (S := SB w7) (by kernel_rfl) hS0 (fun hS => ?_)
      clear hS0
      refine tk 0 (by decide) ?_ hS (by kernel_rfl) (by kernel_rfl) (by kernel_rfl) (by rfl) (fun _ _ _ h => h) ?_ ?_
      rotate_left
      · intro W hW
        clear hW
        simp only [z0, z1]
        go_simp
        first | done | with_reducible rfl
      simp only [z0, z1, Act.put, z3, z4, z5]
      refine tk 1 (by decide) ?_ hS (by kernel_rfl) (by kernel_rfl) (by kernel_rfl) (by rfl) (fun _ _ _ h => h) ?_ ?_
      rotate_left
      · intro W hW
        clear hW
        simp only [z0, z1]
        go_simp
        first | done | with_reducible rfl
      simp only [z0, z1, Act.put, z3, z4, z5]
      refine tk 2 (by decide) ?_ hS (by kernel_rfl) (by kernel_rfl) (by kernel_rfl) (by rfl) (fun _ _ _ h => h) ?_ ?_
      rotate_left
      · intro W hW
        clear hW
        simp only [z0, z1]
        go_simp
        first | done | with_reducible rfl
      simp only [z0, z1, Act.put, z3, z4, z5]
      refine tk 3 (by decide) ?_ hS (by kernel_rfl) (by kernel_rfl) (by kernel_rfl) (by rfl) (fun _ _ _ h => h) ?_ ?_
      rotate_left
      · intro W hW
        clear hW
        simp only [z0, z1]
        go_simp
        first | done | with_reducible rfl
      simp only [z0, z1, Act.put, z3, z4, z5]
      refine tk 4 (by decide) ?_ hS (by kernel_rfl) (by kernel_rfl) (by kernel_rfl) (by rfl) (fun _ _ _ h => h) ?_ ?_
      rotate_left
      · intro W hW
        clear hW
        simp only [z0, z1]
        go_simp
        first | done | with_reducible rfl
      simp only [z0, z1, Act.put, z3, z4, z5]
      refine tk 5 (by decide) ?_ hS (by kernel_rfl) (by kernel_rfl) (by kernel_rfl) (by rfl) (fun _ _ _ h => h) ?_ ?_
      rotate_left
      · intro W hW
        clear hW
        simp only [z0, z1]
        go_simp
        first | done | with_reducible rfl
      simp only [z0, z1, Act.put, z3, z4, z5]
      refine tk 6 (by decide) ?_ hS (by kernel_rfl) (by kernel_rfl) (by kernel_rfl) (by rfl) (fun _ _ _ h => h) ?_ ?_
      rotate_left
      · intro W hW
        clear hW
        simp only [z0, z1]
        go_simp
        first | done | with_reducible rfl
      simp only [z0, z1, Act.put, z3, z4, z5]
      refine tk 7 (by decide) ?_ hS (by kernel_rfl) (by kernel_rfl) (by kernel_rfl) (by rfl) (fun _ _ _ h => h) ?_ ?_
      rotate_left
      · intro W hW
        clear hW
        simp only [z0, z1]
        go_simp
        first | done | with_reducible rfl
      simp only [z0, z1, Act.put, z3, z4, z5]
      refine tk 8 (by decide) ?_ hS (by kernel_rfl) (by kernel_rfl) (by kernel_rfl) (by rfl) (fun _ _ _ h => h) ?_ ?_
      rotate_left
      · intro W hW
        clear hW
        simp only [z0, z1]
        go_simp
        first | done | with_reducible rfl
      simp only [z0, z1, Act.put, z3, z4, z5]
      refine tk 9 (by decide) ?_ hS (by kernel_rfl) (by kernel_rfl) (by kernel_rfl) (by rfl) (fun _ _ _ h => h) ?_ ?_
      rotate_left
      · intro W hW
        clear hW
        simp only [z0, z1]
        go_simp
        first | done | with_reducible rfl
      simp only [z0, z1, Act.put, z3, z4, z5]
      refine tk 10 (by decide) ?_ hS (by kernel_rfl) (by kernel_rfl) (by kernel_rfl) (by rfl) (fun _ _ _ h => h) ?_ ?_
      rotate_left
      · intro W hW
        clear hW
        simp only [z0, z1]
        go_simp
        first | done | with_reducible rfl
      simp only [z0, z1, Act.put, z3, z4, z5]
      refine tk 11 (by decide) ?_ hS (by kernel_rfl) (by kernel_rfl) (by kernel_rfl) (by rfl) (fun _ _ _ h => h) ?_ ?_
      rotate_left
      · intro W hW
        clear hW
        simp only [z0, z1]
        go_simp
        first | done | with_reducible rfl
      simp only [z0, z1, Act.put, z3, z4, z5]
      refine take_at 12 (by decide) (by kernel_rfl) (by kernel_rfl) (by kernel_rfl) (fun _ _ _ h => h) hS (yieldsIf_load_mid (by rfl) 23 (.tmp 46) rfl g5 11 rfl [.int .i64 2, .int .i64 705, .int .i64 0, .int .i64 100, .int .i64 1, .int .i64 1, .int .i64 0, .int .i64 1, .int .i64 0, .int .i64 0, .string { data := #[104, 111, 109, 101] }, .string { data := #[69, 85, 82] }] _ (fun W hW => HM.out W hW) Tryz.underlying23 rfl (by kernel_rfl)) ?_
      simp only [z0, z1, Act.put, z3, z4, z5]
      refine take_at 13 (by decide) (by kernel_rfl) (by kernel_rfl) (by kernel_rfl) (fun _ _ _ h => h) hS (yields_load_row (by rfl) 23 (.tmp 4) rfl gt rfl _ _ _ _ (fun W hW => (kt2.later hW)) Tryz.underlying23 rfl (by kernel_rfl)) ?_
      simp only [z0, z1, Act.put, z3, z4, z5]
      refine tk 14 (by decide) ?_ hS (by kernel_rfl) (by kernel_rfl) (by kernel_rfl) (by rfl) (fun _ _ _ h => h) ?_ ?_
      rotate_left
      · intro W hW
        clear hW
        simp only [z0, z1]
        go_simp
        first | done | with_reducible rfl
      simp only [z0, z1, Act.put, z3, z4, z5]
      refine tk 15 (by decide) ?_ hS (by kernel_rfl) (by kernel_rfl) (by kernel_rfl) (by rfl) (fun _ _ _ h => h) ?_ ?_
      rotate_left
      · intro W hW
        clear hW
        simp only [z0, z1]
        go_simp
        first | done | with_reducible rfl
      simp only [z0, z1, Act.put, z3, z4, z5]
      refine tk 16 (by decide) ?_ hS (by kernel_rfl) (by kernel_rfl) (by kernel_rfl) (by rfl) (fun _ _ _ h => h) ?_ ?_
      rotate_left
      · intro W hW
        clear hW
        simp only [z0, z1]
        go_simp
        first | done | with_reducible rfl
      simp only [z0, z1, Act.put, z3, z4, z5]
      refine tk 17 (by decide) ?_ hS (by kernel_rfl) (by kernel_rfl) (by kernel_rfl) (by rfl) (fun _ _ _ h => h) ?_ ?_
      rotate_left
      · intro W hW
        clear hW
        simp only [z0, z1]
        go_simp
        first | done | with_reducible rfl
      simp only [z0, z1, Act.put, z3, z4, z5]
      refine tk 18 (by decide) ?_ hS (by kernel_rfl) (by kernel_rfl) (by kernel_rfl) (by rfl) (fun _ _ _ h => h) ?_ ?_
      rotate_left
      · intro W hW
        have q := (k5.later hW).c6
        clear hW
        simp only [z0, z1]
        go_simp
        first | done | with_reducible rfl
      simp only [z0, z1, Act.put, z3, z4, z5]
      refine tk 19 (by decide) ?_ hS (by kernel_rfl) (by kernel_rfl) (by kernel_rfl) (by rfl) (fun _ _ _ h => h) ?_ ?_
      rotate_left
      · intro W hW
        clear hW
        simp only [z0, z1]
        go_simp
        first | done | with_reducible rfl
      simp only [z0, z1, Act.put, z3, z4, z5]
      refine tk 20 (by decide) ?_ hS (by kernel_rfl) (by kernel_rfl) (by kernel_rfl) (by rfl) (fun _ _ _ h => h) ?_ ?_
      rotate_left
      · intro W hW
        clear hW
        simp only [z0, z1]
        go_simp
        first | done | with_reducible rfl
      simp only [z0, z1, Act.put, z3, z4, z5]
      refine tk 21 (by decide) ?_ hS (by kernel_rfl) (by kernel_rfl) (by kernel_rfl) (by rfl) (fun _ _ _ h => h) ?_ ?_
      rotate_left
      · intro W hW
        clear hW
        simp only [z0, z1]
        go_simp
        first | done | with_reducible rfl
      simp only [z0, z1, Act.put, z3, z4, z5]
      refine tk 22 (by decide) ?_ hS (by kernel_rfl) (by kernel_rfl) (by kernel_rfl) (by rfl) (fun _ _ _ h => h) ?_ ?_
      rotate_left
      · intro W hW
        clear hW
        simp only [z0, z1]
        go_simp
        first | done | with_reducible rfl
      simp only [z0, z1, Act.put, z3, z4, z5]
      refine tk 23 (by decide) ?_ hS (by kernel_rfl) (by kernel_rfl) (by kernel_rfl) (by rfl) (fun _ _ _ h => h) ?_ ?_
      rotate_left
      · intro W hW
        have q := (k5.later hW).c3
        clear hW
        simp only [z0, z1]
        go_simp
        first | done | with_reducible rfl
      simp only [z0, z1, Act.put, z3, z4, z5]
      refine tk 24 (by decide) ?_ hS (by kernel_rfl) (by kernel_rfl) (by kernel_rfl) (by rfl) (fun _ _ _ h => h) ?_ ?_
      rotate_left
      · intro W hW
        clear hW
        simp only [z0, z1]
        go_simp
        first | done | with_reducible rfl
      simp only [z0, z1, Act.put, z3, z4, z5]
      refine tk 25 (by decide) ?_ hS (by kernel_rfl) (by kernel_rfl) (by kernel_rfl) (by rfl) (fun _ _ _ h => h) ?_ ?_
      rotate_left
      · intro W hW
        clear hW
        simp only [z0, z1]
        go_simp
        first | done | with_reducible rfl
      simp only [z0, z1, Act.put, z3, z4, z5]
      refine tk 26 (by decide) ?_ hS (by kernel_rfl) (by kernel_rfl) (by kernel_rfl) (by rfl) (fun _ _ _ h => h) ?_ ?_
      rotate_left
      · intro W hW
        clear hW
        simp only [z0, z1]
        go_simp
        first | done | with_reducible rfl
      simp only [z0, z1, Act.put, z3, z4, z5]
      refine tk 27 (by decide) ?_ hS (by kernel_rfl) (by kernel_rfl) (by kernel_rfl) (by rfl) (fun _ _ _ h => h) ?_ ?_
      rotate_left
      · intro W hW
        clear hW
        simp only [z0, z1]
        go_simp
        first | done | with_reducible rfl
      simp only [z0, z1, Act.put, z3, z4, z5]
      refine tk 28 (by decide) ?_ hS (by kernel_rfl) (by kernel_rfl) (by kernel_rfl) (by rfl) (fun _ _ _ h => h) ?_ ?_
      rotate_left
      · intro W hW
        have q := (k5.later hW).c23
        clear hW
        simp only [z0, z1]
        go_simp
        first | done | with_reducible rfl
      simp only [z0, z1, Act.put, z3, z4, z5]
      refine tk 29 (by decide) ?_ hS (by kernel_rfl) (by kernel_rfl) (by kernel_rfl) (by rfl) (fun _ _ _ h => h) ?_ ?_
      rotate_left
      · intro W hW
        clear hW
        simp only [z0, z1]
        go_simp
        first | done | with_reducible rfl
      simp only [z0, z1, Act.put, z3, z4, z5]
      refine tk 30 (by decide) ?_ hS (by kernel_rfl) (by kernel_rfl) (by kernel_rfl) (by rfl) (fun _ _ _ h => h) ?_ ?_
      rotate_left
      · intro W hW
        clear hW
        simp only [z0, z1]
        go_simp
        first | done | with_reducible rfl
      simp only [z0, z1, Act.put, z3, z4, z5]
      refine tk 31 (by decide) ?_ hS (by kernel_rfl) (by kernel_rfl) (by kernel_rfl) (by rfl) (fun _ _ _ h => h) ?_ ?_
      rotate_left
      · intro W hW
        clear hW
        simp only [z0, z1]
        go_simp
        first | done | with_reducible rfl
      simp only [z0, z1, Act.put, z3, z4, z5]
      refine tk 32 (by decide) ?_ hS (by kernel_rfl) (by kernel_rfl) (by kernel_rfl) (by rfl) (fun _ _ _ h => h) ?_ ?_
      rotate_left
      · intro W hW
        clear hW
        simp only [z0, z1]
        go_simp
        first | done | with_reducible rfl
      simp only [z0, z1, Act.put, z3, z4, z5]
      refine tk 33 (by decide) ?_ hS (by kernel_rfl) (by kernel_rfl) (by kernel_rfl) (by rfl) (fun _ _ _ h => h) ?_ ?_
      rotate_left
      · intro W hW
        clear hW
        simp only [z0, z1]
        go_simp
        first | done | with_reducible rfl
      simp only [z0, z1, Act.put, z3, z4, z5]
      refine tk 34 (by decide) ?_ hS (by kernel_rfl) (by kernel_rfl) (by kernel_rfl) (by rfl) (fun _ _ _ h => h) ?_ ?_
      rotate_left
      · intro W hW
        have q := (k5.later hW).c23
        clear hW
        simp only [z0, z1]
        go_simp
        first | done | with_reducible rfl
      simp only [z0, z1, Act.put, z3, z4, z5]
      refine tk 35 (by decide) ?_ hS (by kernel_rfl) (by kernel_rfl) (by kernel_rfl) (by rfl) (fun _ _ _ h => h) ?_ ?_
      rotate_left
      · intro W hW
        clear hW
        simp only [z0, z1]
        go_simp
        first | done | with_reducible rfl
      simp only [z0, z1, Act.put, z3, z4, z5]
      refine tk 36 (by decide) ?_ hS (by kernel_rfl) (by kernel_rfl) (by kernel_rfl) (by rfl) (fun _ _ _ h => h) ?_ ?_
      rotate_left
      · intro W hW
        clear hW
        simp only [z0, z1]
        go_simp
        first | done | with_reducible rfl
      simp only [z0, z1, Act.put, z3, z4, z5]
      refine tk 37 (by decide) ?_ hS (by kernel_rfl) (by kernel_rfl) (by kernel_rfl) (by rfl) (fun _ _ _ h => h) ?_ ?_
      rotate_left
      · intro W hW
        have q := HQ2.out W hW
        clear hW
        simp only [z0, z1]
        go_simp
        first | done | with_reducible rfl
      simp only [z0, z1, Act.put, z3, z4, z5]
      refine tk 38 (by decide) ?_ hS (by kernel_rfl) (by kernel_rfl) (by kernel_rfl) (by rfl) (fun _ _ _ h => h) ?_ ?_
      rotate_left
      · intro W hW
        clear hW
        simp only [z0, z1]
        go_simp
        first | done | with_reducible rfl
      simp only [z0, z1, Act.put, z3, z4, z5]
      refine tk 39 (by decide) ?_ hS (by kernel_rfl) (by kernel_rfl) (by kernel_rfl) (by rfl) (fun _ _ _ h => h) ?_ ?_
      rotate_left
      · intro W hW
        clear hW
        simp only [z0, z1]
        go_simp
        first | done | with_reducible rfl
      simp only [z0, z1, Act.put, z3, z4, z5]
      refine tk 40 (by decide) ?_ hS (by kernel_rfl) (by kernel_rfl) (by kernel_rfl) (by rfl) (fun _ _ _ h => h) ?_ ?_
      rotate_left
      · intro W hW
        clear hW
        simp only [z0, z1]
        go_simp
        first | done | with_reducible rfl
      simp only [z0, z1, Act.put, z3, z4, z5]
      refine tk 41 (by decide) ?_ hS (by kernel_rfl) (by kernel_rfl) (by kernel_rfl) (by rfl) (fun _ _ _ h => h) ?_ ?_
      rotate_left
      · intro W hW
        clear hW
        simp only [z0, z1]
        go_simp
        first | done | with_reducible rfl
      simp only [z0, z1, Act.put, z3, z4, z5]
      refine tk 42 (by decide) ?_ hS (by kernel_rfl) (by kernel_rfl) (by kernel_rfl) (by rfl) (fun _ _ _ h => h) ?_ ?_
      rotate_left
      · intro W hW
        have q := (k5.later hW).c24
        clear hW
        simp only [z0, z1]
        go_simp
        first | done | with_reducible rfl
      simp only [z0, z1, Act.put, z3, z4, z5]
      refine tk 43 (by decide) ?_ hS (by kernel_rfl) (by kernel_rfl) (by kernel_rfl) (by rfl) (fun _ _ _ h => h) ?_ ?_
      rotate_left
      · intro W hW
        clear hW
        simp only [z0, z1]
        go_simp
        first | done | with_reducible rfl
      simp only [z0, z1, Act.put, z3, z4, z5]
      refine tk 44 (by decide) ?_ hS (by kernel_rfl) (by kernel_rfl) (by kernel_rfl) (by rfl) (fun _ _ _ h => h) ?_ ?_
      rotate_left
      · intro W hW
        clear hW
        simp only [z0, z1]
        go_simp
        first | done | with_reducible rfl
      simp only [z0, z1, Act.put, z3, z4, z5]
      refine tk 45 (by decide) ?_ hS (by kernel_rfl) (by kernel_rfl) (by kernel_rfl) (by rfl) (fun _ _ _ h => h) ?_ ?_
      rotate_left
      · intro W hW
        clear hW
        simp only [z0, z1]
        go_simp
        first | done | with_reducible rfl
      simp only [z0, z1, Act.put, z3, z4, z5]
      refine tk 46 (by decide) ?_ hS (by kernel_rfl) (by kernel_rfl) (by kernel_rfl) (by rfl) (fun _ _ _ h => h) ?_ ?_
      rotate_left
      · intro W hW
        clear hW
        simp only [z0, z1]
        go_simp
        first | done | with_reducible rfl
      simp only [z0, z1, Act.put, z3, z4, z5]
      refine tk 47 (by decide) ?_ hS (by kernel_rfl) (by kernel_rfl) (by kernel_rfl) (by rfl) (fun _ _ _ h => h) ?_ ?_
      rotate_left
      · intro W hW
        clear hW
        simp only [z0, z1]
        go_simp
        first | done | with_reducible rfl
      simp only [z0, z1, Act.put, z3, z4, z5]
      refine tk 48 (by decide) ?_ hS (by kernel_rfl) (by kernel_rfl) (by kernel_rfl) (by rfl) (fun _ _ _ h => h) ?_ ?_
      rotate_left
      · intro W hW
        have q := (k5.later hW).c24
        clear hW
        simp only [z0, z1]
        go_simp
        first | done | with_reducible rfl
      simp only [z0, z1, Act.put, z3, z4, z5]
      refine tk 49 (by decide) ?_ hS (by kernel_rfl) (by kernel_rfl) (by kernel_rfl) (by rfl) (fun _ _ _ h => h) ?_ ?_
      rotate_left
      · intro W hW
        clear hW
        simp only [z0, z1]
        go_simp
        first | done | with_reducible rfl
      simp only [z0, z1, Act.put, z3, z4, z5]
      refine tk 50 (by decide) ?_ hS (by kernel_rfl) (by kernel_rfl) (by kernel_rfl) (by rfl) (fun _ _ _ h => h) ?_ ?_
      rotate_left
      · intro W hW
        clear hW
        simp only [z0, z1]
        go_simp
        first | done | with_reducible rfl
      simp only [z0, z1, Act.put, z3, z4, z5]
      refine tk 51 (by decide) ?_ hS (by kernel_rfl) (by kernel_rfl) (by kernel_rfl) (by rfl) (fun _ _ _ h => h) ?_ ?_
      rotate_left
      · intro W hW
        have q := HQ3.out W hW
        clear hW
        simp only [z0, z1]
        go_simp
        first | done | with_reducible rfl
      simp only [z0, z1, Act.put, z3, z4, z5]
      refine tk 52 (by decide) ?_ hS (by kernel_rfl) (by kernel_rfl) (by kernel_rfl) (by rfl) (fun _ _ _ h => h) ?_ ?_
      rotate_left
      · intro W hW
        clear hW
        simp only [z0, z1]
        go_simp
        first | done | with_reducible rfl
      simp only [z0, z1, Act.put, z3, z4, z5]
      refine tk 53 (by decide) ?_ hS (by kernel_rfl) (by kernel_rfl) (by kernel_rfl) (by rfl) (fun _ _ _ h => h) ?_ ?_
      rotate_left
      · intro W hW
        clear hW
        simp only [z0, z1]
        go_simp
        first | done | with_reducible rfl
      simp only [z0, z1, Act.put, z3, z4, z5]
      refine tk 54 (by decide) ?_ hS (by kernel_rfl) (by kernel_rfl) (by kernel_rfl) (by rfl) (fun _ _ _ h => h) ?_ ?_
      rotate_left
      · intro W hW
        clear hW
        simp only [z0, z1]
        go_simp
        first | done | with_reducible rfl
      simp only [z0, z1, Act.put, z3, z4, z5]
      refine tk 55 (by decide) ?_ hS (by kernel_rfl) (by kernel_rfl) (by kernel_rfl) (by rfl) (fun _ _ _ h => h) ?_ ?_
      rotate_left
      · intro W hW
        clear hW
        simp only [z0, z1]
        go_simp
        first | done | with_reducible rfl
      simp only [z0, z1, Act.put, z3, z4, z5]
      refine tk 56 (by decide) ?_ hS (by kernel_rfl) (by kernel_rfl) (by kernel_rfl) (by rfl) (fun _ _ _ h => h) ?_ ?_
      rotate_left
      · intro W hW
        have q := (k5.later hW).c7
        clear hW
        simp only [z0, z1]
        go_simp
        first | done | with_reducible rfl
      simp only [z0, z1, Act.put, z3, z4, z5]
      refine tk 57 (by decide) ?_ hS (by kernel_rfl) (by kernel_rfl) (by kernel_rfl) (by rfl) (fun _ _ _ h => h) ?_ ?_
      rotate_left
      · intro W hW
        clear hW
        simp only [z0, z1]
        go_simp
        first | done | with_reducible rfl
      simp only [z0, z1, Act.put, z3, z4, z5]
      refine tk 58 (by decide) ?_ hS (by kernel_rfl) (by kernel_rfl) (by kernel_rfl) (by rfl) (fun _ _ _ h => h) ?_ ?_
      rotate_left
      · intro W hW
        clear hW
        simp only [z0, z1]
        go_simp
        first | done | with_reducible rfl
      simp only [z0, z1, Act.put, z3, z4, z5]
      refine tk 59 (by decide) ?_ hS (by kernel_rfl) (by kernel_rfl) (by kernel_rfl) (by rfl) (fun _ _ _ h => h) ?_ ?_
      rotate_left
      · intro W hW
        clear hW
        simp only [z0, z1]
        go_simp
        first | done | with_reducible rfl
      simp only [z0, z1, Act.put, z3, z4, z5]
      refine tk 60 (by decide) ?_ hS (by kernel_rfl) (by kernel_rfl) (by kernel_rfl) (by rfl) (fun _ _ _ h => h) ?_ ?_
      rotate_left
      · intro W hW
        clear hW
        simp only [z0, z1]
        go_simp
        first | done | with_reducible rfl
      simp only [z0, z1, Act.put, z3, z4, z5]
      refine tk 61 (by decide) ?_ hS (by kernel_rfl) (by kernel_rfl) (by kernel_rfl) (by rfl) (fun _ _ _ h => h) ?_ ?_
      rotate_left
      · intro W hW
        clear hW
        simp only [z0, z1]
        go_simp
        first | done | with_reducible rfl
      simp only [z0, z1, Act.put, z3, z4, z5]
      refine tk 62 (by decide) ?_ hS (by kernel_rfl) (by kernel_rfl) (by kernel_rfl) (by rfl) (fun _ _ _ h => h) ?_ ?_
      rotate_left
      · intro W hW
        clear hW
        simp only [z0, z1]
        go_simp
        first | done | with_reducible rfl
      simp only [z0, z1, Act.put, z3, z4, z5]
      refine tk 63 (by decide) ?_ hS (by kernel_rfl) (by kernel_rfl) (by kernel_rfl) (by rfl) (fun _ _ _ h => h) ?_ ?_
      rotate_left
      · intro W hW
        clear hW
        simp only [z0, z1]
        go_simp
        first | done | with_reducible rfl
      simp only [z0, z1, Act.put, z3, z4, z5]
      refine take_at 64 (by decide) (by kernel_rfl) (by kernel_rfl) (by kernel_rfl) (fun _ _ _ h => h) hS (yields_load_row (by rfl) 31 (.tmp 5) rfl g5 rfl _ _ _ _ (fun W hW => (k5.later hW)) Tryz.underlying31 rfl (by kernel_rfl)) ?_
      simp only [z0, z1, Act.put, z3, z4, z5]
      refine call_at 65 (by decide) (Pi := (fun v _ => v = (.agg #[.int .i64 2, .int .i64 1000, .int .i64 0, .int .i64 30, .int .i64 1, .int .i64 3, .int .i64 0, .int .i64 1, .int .i64 0, .int .i64 0, .string { data := #[104, 111, 109, 101] }, .string { data := #[69, 85, 82] }]))) (by kernel_rfl) (by rfl) (by simp only [z0, z1]; go_simp; first | done | rfl | exact ⟨rfl, rfl⟩) (call_one SB.mono hS (terms_99 (some ⟨b2, o2, none⟩) (some ⟨b3, o3, none⟩) dk ck _ (HR.out _ hS))) ?_
      clear hS
      rintro w8 u hS rfl
      simp only [z0, z1, Act.put, z3, z4, z5]
      refine call_at 66 (by decide) (Pi := SmP) (by kernel_rfl) (by rfl) (by simp only [z0, z1]; go_simp; first | done | rfl | exact ⟨rfl, rfl⟩) (call_pv SB.mono hS (sample_any _)) ?_
      clear hS
      rintro w9 u hS ⟨g9, rfl, hd9⟩
      simp only [z0, z1, Act.put, z3, z4, z5]
      clear hd9
      refine tk 67 (by decide) ?_ hS (by kernel_rfl) (by kernel_rfl) (by kernel_rfl) (by rfl) (fun _ _ _ h => h) ?_ ?_
      rotate_left
      · intro W hW
        clear hW
        simp only [z0, z1]
        go_simp
        first | done | with_reducible rfl
      simp only [z0, z1, Act.put, z3, z4, z5]
      refine tk 68 (by decide) ?_ hS (by kernel_rfl) (by kernel_rfl) (by kernel_rfl) (by rfl) (fun _ _ _ h => h) ?_ ?_
      rotate_left
      · intro W hW
        clear hW
        simp only [z0, z1]
        go_simp
        first | done | with_reducible rfl
      simp only [z0, z1, Act.put, z3, z4, z5]
      refine tk 69 (by decide) ?_ hS (by kernel_rfl) (by kernel_rfl) (by kernel_rfl) (by rfl) (fun _ _ _ h => h) ?_ ?_
      rotate_left
      · intro W hW
        clear hW
        simp only [z0, z1]
        go_simp
        first | done | with_reducible rfl
      simp only [z0, z1, Act.put, z3, z4, z5]
      refine tk 70 (by decide) ?_ hS (by kernel_rfl) (by kernel_rfl) (by kernel_rfl) (by rfl) (fun _ _ _ h => h) ?_ ?_
      rotate_left
      · intro W hW
        clear hW
        simp only [z0, z1]
        go_simp
        first | done | with_reducible rfl
      simp only [z0, z1, Act.put, z3, z4, z5]
      refine take_at 71 (by decide) (by kernel_rfl) (by kernel_rfl) (by kernel_rfl) (fun _ _ _ h => h) hS (yields_load_row (by rfl) 31 (.tmp 5) rfl g5 rfl _ _ _ _ (fun W hW => (k5.later hW)) Tryz.underlying31 rfl (by kernel_rfl)) ?_
      simp only [z0, z1, Act.put, z3, z4, z5]
      refine take_at 73 (by decide) (by kernel_rfl) (by kernel_rfl) (by kernel_rfl) (fun _ _ _ h => h) hS (yields_load_row (by rfl) 23 (.tmp 4) rfl gt rfl _ _ _ _ (fun W hW => (kt2.later hW)) Tryz.underlying23 rfl (by kernel_rfl)) ?_
      simp only [z0, z1, Act.put, z3, z4, z5]
      refine call_at 72 (by decide) (Pi := (fun v _ => v = (.agg #[.int .i64 2, .int .i64 705, .int .i64 0, .int .i64 100, .int .i64 1, .int .i64 1, .int .i64 0, .int .i64 1, .int .i64 0, .int .i64 0, .string { data := #[104, 111, 109, 101] }, .string { data := #[69, 85, 82] }]))) (by kernel_rfl) (by rfl) (by simp only [z0, z1]; go_simp; first | done | rfl | exact ⟨rfl, rfl⟩) (call_one SB.mono hS (terms_100 (some ⟨b2, o2, none⟩) (some ⟨b3, o3, none⟩) dk ck _ (HR.out _ hS))) ?_
      clear hS
      rintro w10 u hS rfl
      simp only [z0, z1, Act.put, z3, z4, z5]
      refine tk 74 (by decide) ?_ hS (by kernel_rfl) (by kernel_rfl) (by kernel_rfl) (by rfl) (fun _ _ _ h => h) ?_ ?_
      rotate_left
      · intro W hW
        clear hW
        simp only [z0, z1]
        go_simp
        first | done | with_reducible rfl
      simp only [z0, z1, Act.put, z3, z4, z5]
      refine tk 75 (by decide) ?_ hS (by kernel_rfl) (by kernel_rfl) (by kernel_rfl) (by rfl) (fun _ _ _ h => h) ?_ ?_
      rotate_left
      · intro W hW
        clear hW
        simp only [z0, z1]
        go_simp
        first | done | with_reducible rfl
      simp only [z0, z1, Act.put, z3, z4, z5]
      refine tk 76 (by decide) ?_ hS (by kernel_rfl) (by kernel_rfl) (by kernel_rfl) (by rfl) (fun _ _ _ h => h) ?_ ?_
      rotate_left
      · intro W hW
        clear hW
        simp only [z0, z1]
        go_simp
        first | done | with_reducible rfl
      simp only [z0, z1, Act.put, z3, z4, z5]
      refine take_at 77 (by decide) (by kernel_rfl) (by kernel_rfl) (by kernel_rfl) (fun _ _ _ h => h) hS (yields_load_row (by rfl) 31 (.tmp 5) rfl g5 rfl _ _ _ _ (fun W hW => (k5.later hW)) Tryz.underlying31 rfl (by kernel_rfl)) ?_
      simp only [z0, z1, Act.put, z3, z4, z5]
      refine call_at 78 (by decide) (Pi := (fun v _ => v = .bool true)) (by kernel_rfl) (by rfl) (by simp only [z0, z1]; go_simp; first | done | rfl | exact ⟨rfl, rfl⟩) (call_one SB.mono hS (chgs_s (some ⟨b2, o2, none⟩) (some ⟨b3, o3, none⟩) dk ck _ (HR.out _ hS))) ?_
      clear hS
      rintro w11 u hS rfl
      simp only [z0, z1, Act.put, z3, z4, z5]
      refine tk 79 (by decide) ?_ hS (by kernel_rfl) (by kernel_rfl) (by kernel_rfl) (by rfl) (fun _ _ _ h => h) ?_ ?_
      rotate_left
      · intro W hW
        clear hW
        simp only [z0, z1]
        go_simp
        first | done | with_reducible rfl
      simp only [z0, z1, Act.put, z3, z4, z5]
      refine tk 80 (by decide) ?_ hS (by kernel_rfl) (by kernel_rfl) (by kernel_rfl) (by rfl) (fun _ _ _ h => h) ?_ ?_
      rotate_left
      · intro W hW
        clear hW
        simp only [z0, z1]
        go_simp
        first | done | with_reducible rfl
      simp only [z0, z1, Act.put, z3, z4, z5]
      refine wpAnyH_done (by kernel_rfl) ?_ _
      go_wp2_with fail
      go_ret
      exact ⟨rfl, Ln.bl2 hS cw7⟩
end Go.Proofs.YtfiplppdmedhkaaGreatDoor.Ln
