/-
  Check of changes: the program's and the reference's.
-/
import Derived.Test.YtfiplppdmedhkaaGreatDoorRsa
import Derived.Test.YtfiplppdmedhkaaGreatDoorTkb
namespace Go.Proofs.YtfiplppdmedhkaaGreatDoor.Ln
open Go Go.RowKit
open Go.Proofs.YtfiplppdmedhkaaGreatDoor
set_option linter.unusedSimpArgs false
set_option linter.unusedVariables false
set_option maxRecDepth 100000

/-- Two blocks are known, and old memory is as it was. -/
def SL (w0 : World) (g : Nat) (cs : Array Value) (t : TypeId) (g' : Nat) (cs' : Array Value) (t' : TypeId) (W : World) : Prop := (Bk.Blk W g cs t ∧ Bk.Blk W g' cs' t') ∧ Below w0.heap.size w0 W
theorem SL.mono {w0 : World} {g : Nat} {cs : Array Value} {t : TypeId} {g' : Nat} {cs' : Array Value} {t' : TypeId} : ∀ W W', SL w0 g cs t g' cs' t' W → Below W.heap.size W W' → SL w0 g cs t g' cs' t' W' := fun _ _ h hb => ⟨⟨h.1.1.later hb, h.1.2.later hb⟩, bl2 hb h.2⟩
theorem dv_yes (d : Int) (w : World) (h : 0 ≤ d ∧ d ≤ 73048) : Calls Tryz.prog 100 #[.int .i64 d] w fun e w' => e = .returned (.bool true) ∧ Below w.heap.size w w' := (Dt.valid_yes d w h.1 h.2).mono fun e w' ⟨he, hw⟩ => ⟨he, by rw [← hw]; exact Below.refl _ _⟩
theorem dv_no (d : Int) (w : World) (h : ¬ (0 ≤ d ∧ d ≤ 73048)) : Calls Tryz.prog 100 #[.int .i64 d] w fun e w' => e = .returned (.bool false) ∧ Below w.heap.size w w' := (Dt.valid_no d w (by omega)).mono fun e w' ⟨he, hw⟩ => ⟨he, by rw [← hw]; exact Below.refl _ _⟩
def CkR (w : World) (cs : List Ch) (g : Nat) (s8 : Value) (W : World) : Prop := ∃ k : Nat, k + g = cs.length ∧ s8 = .int .i64 k ∧ (∀ j, j < k → chgB cs j = true) ∧ Below w.heap.size w W
set_option maxHeartbeats 32000000 in
theorem chgs_any (l : Lo) (da ca : Option Addr) (dk ck : Nat) (w : World) (h : RowIn cenc w ca l.cs) (hn : l.cs.length ≤ 100000) :
    Calls Tryz.prog 51 #[(.agg #[.int .i64 (l).id, .int .i64 (l).ac, .int .i64 (l).st, .int .i64 (l).pp, .int .i64 (l).pi, .int .i64 (l).fee, .int .i64 (l).pen, .int .i64 (l).chg, .int .i64 (l).prov, .int .i64 (l).loss, .int .i64 (l).rcv, .int .i64 ((l).tm).me, .int .i64 ((l).tm).pr, .int .i64 ((l).tm).ppm, .int .i64 ((l).tm).stt, .int .i64 ((l).tm).ev, .int .i64 ((l).tm).ct, .int .i64 ((l).tm).ba, .int .i64 ((l).tm).mo, .int .i64 ((l).tm).pen, .int .i64 ((l).tm).fe, .string ((l).tm).cal, .string ((l).tm).cur, .slice da (l).ds.length dk, .slice ca (l).cs.length ck])] w fun e w' => e = .returned (.bool (chgsB l.cs)) ∧ Below w.heap.size w w' := by
  have cw : Below w.heap.size w (w.alloc (.cells #[.int .i64 (l).id, .int .i64 (l).ac, .int .i64 (l).st, .int .i64 (l).pp, .int .i64 (l).pi, .int .i64 (l).fee, .int .i64 (l).pen, .int .i64 (l).chg, .int .i64 (l).prov, .int .i64 (l).loss, .int .i64 (l).rcv, .int .i64 ((l).tm).me, .int .i64 ((l).tm).pr, .int .i64 ((l).tm).ppm, .int .i64 ((l).tm).stt, .int .i64 ((l).tm).ev, .int .i64 ((l).tm).ct, .int .i64 ((l).tm).ba, .int .i64 ((l).tm).mo, .int .i64 ((l).tm).pen, .int .i64 ((l).tm).fe, .string ((l).tm).cal, .string ((l).tm).cur, .slice da (l).ds.length dk, .slice ca (l).cs.length ck] 31)) := (Below.refl _ _).alloc (Nat.le_refl _) _
  have k0 : Bk.Blk (w.alloc (.cells #[.int .i64 (l).id, .int .i64 (l).ac, .int .i64 (l).st, .int .i64 (l).pp, .int .i64 (l).pi, .int .i64 (l).fee, .int .i64 (l).pen, .int .i64 (l).chg, .int .i64 (l).prov, .int .i64 (l).loss, .int .i64 (l).rcv, .int .i64 ((l).tm).me, .int .i64 ((l).tm).pr, .int .i64 ((l).tm).ppm, .int .i64 ((l).tm).stt, .int .i64 ((l).tm).ev, .int .i64 ((l).tm).ct, .int .i64 ((l).tm).ba, .int .i64 ((l).tm).mo, .int .i64 ((l).tm).pen, .int .i64 ((l).tm).fe, .string ((l).tm).cal, .string ((l).tm).cur, .slice da (l).ds.length dk, .slice ca (l).cs.length ck] 31)) w.heap.size #[.int .i64 (l).id, .int .i64 (l).ac, .int .i64 (l).st, .int .i64 (l).pp, .int .i64 (l).pi, .int .i64 (l).fee, .int .i64 (l).pen, .int .i64 (l).chg, .int .i64 (l).prov, .int .i64 (l).loss, .int .i64 (l).rcv, .int .i64 ((l).tm).me, .int .i64 ((l).tm).pr, .int .i64 ((l).tm).ppm, .int .i64 ((l).tm).stt, .int .i64 ((l).tm).ev, .int .i64 ((l).tm).ct, .int .i64 ((l).tm).ba, .int .i64 ((l).tm).mo, .int .i64 ((l).tm).pen, .int .i64 ((l).tm).fe, .string ((l).tm).cal, .string ((l).tm).cur, .slice da (l).ds.length dk, .slice ca (l).cs.length ck] 31 := Bk.Blk.nw10
  have hr := h.later cw
  clear h
  go_enter Tryz.func51, Tryz.ntmps51
  go_upto_region 1 with (refine wpList_load_row rfl 31 _ rfl _ rfl _ _ _ _ (Bk.Blk.nw10) Tryz.underlying31 rfl (by kernel_rfl) ?_)
  generalize (w.alloc (.cells #[.int .i64 (l).id, .int .i64 (l).ac, .int .i64 (l).st, .int .i64 (l).pp, .int .i64 (l).pi, .int .i64 (l).fee, .int .i64 (l).pen, .int .i64 (l).chg, .int .i64 (l).prov, .int .i64 (l).loss, .int .i64 (l).rcv, .int .i64 ((l).tm).me, .int .i64 ((l).tm).pr, .int .i64 ((l).tm).ppm, .int .i64 ((l).tm).stt, .int .i64 ((l).tm).ev, .int .i64 ((l).tm).ct, .int .i64 ((l).tm).ba, .int .i64 ((l).tm).mo, .int .i64 ((l).tm).pen, .int .i64 ((l).tm).fe, .string ((l).tm).cal, .string ((l).tm).cur, .slice da (l).ds.length dk, .slice ca (l).cs.length ck] 31)) = w1 at *
  have cw1 := cw
  clear cw
  have l24 := k0.c24
  go_wp2_with fail
  clear l24
  go_loopg [8] l.cs.length (CkR w1 l.cs)
  case atStart => exact ⟨0, by omega, rfl, fun j hj => by omega, Below.refl _ _⟩
  case round =>
    obtain ⟨k, hk, rfl, hall, cwr⟩ := hrel
    have HA := Lib.hid hall
    clear hall
    replace k0 := k0.later cwr
    replace hr := hr.later cwr
    have l24 := k0.c24
    by_cases hlt : k < l.cs.length
    · obtain ⟨b, off, rfl, hc⟩ := hr.mid cenc_len (by omega)
      have hm := hc k hlt
      have hpv : 0 < k → wr.cell? ⟨b, off + (k - 1) * 14, none⟩ = some (.int .i64 l.cs[k - 1]!.day) := fun h0 => day_range (hc (k - 1) (by omega))
      have hcb : chgB l.cs k = (decide (0 ≤ l.cs[k]!.day ∧ l.cs[k]!.day ≤ 73048) && decide (1 ≤ l.cs[k]!.amt ∧ l.cs[k]!.amt ≤ 1000000000000) && (decide (k = 0) || decide (l.cs[k - 1]!.day ≤ l.cs[k]!.day))) := rfl
      have HNO := Lib.hid (fun (h : chgB l.cs k = false) => chgsB_no hlt h)
      clear hc
      generalize l.cs[k]! = d at *
      generalize l.cs[k - 1]!.day = pd at *
      have hbq : Below wr.heap.size wr ((wr.alloc (.cells #[.int .i64 0, .int .i64 0, .int .i64 0, .int .i64 0, .int .i64 0, .int .i64 0, .int .i64 0, .int .i64 0, .int .i64 0, .int .i64 0, .int .i64 0, .int .i64 0, .string { data := #[] }, .string { data := #[] }] 75)).setRow wr.heap.size (cenc d).toArray) := Below_setRow ((Below.refl _ _).alloc (Nat.le_refl _) _) (Nat.le_refl _) _
      have hkq : Bk.Blk ((wr.alloc (.cells #[.int .i64 0, .int .i64 0, .int .i64 0, .int .i64 0, .int .i64 0, .int .i64 0, .int .i64 0, .int .i64 0, .int .i64 0, .int .i64 0, .int .i64 0, .int .i64 0, .string { data := #[] }, .string { data := #[] }] 75)).setRow wr.heap.size (cenc d).toArray) wr.heap.size #[.int .i64 d.day, .int .i64 d.amt, .int .i64 (d.old).me, .int .i64 (d.old).pr, .int .i64 (d.old).ppm, .int .i64 (d.old).stt, .int .i64 (d.old).ev, .int .i64 (d.old).ct, .int .i64 (d.old).ba, .int .i64 (d.old).mo, .int .i64 (d.old).pen, .int .i64 (d.old).fe, .string (d.old).cal, .string (d.old).cur] 75 := Blk_setRow_same Bk.Blk.nw10
      go_upto_region 4 with (first | (refine wpList_load_mid rfl 75 _ rfl b (off + k * 14) (by first | rfl | simp) (cenc d) _ hm Tryz.underlying75 rfl (by kernel_rfl) ?_) | (refine wpList_store_row rfl 75 _ _ rfl _ _ rfl rfl _ _ Bk.Blk.nw10 (by kernel_rfl) rfl (by simp [cenc, tenc, Value.oneCell']) ?_))
      generalize ((wr.alloc (.cells #[.int .i64 0, .int .i64 0, .int .i64 0, .int .i64 0, .int .i64 0, .int .i64 0, .int .i64 0, .int .i64 0, .int .i64 0, .int .i64 0, .int .i64 0, .int .i64 0, .string { data := #[] }, .string { data := #[] }] 75)).setRow wr.heap.size (cenc d).toArray) = wq at *
      have k0q := k0.later hbq
      have cwq := bl2 hbq cwr
      have HPC := Lib.hid (fun W (hW : SL wq w.heap.size #[.int .i64 (l).id, .int .i64 (l).ac, .int .i64 (l).st, .int .i64 (l).pp, .int .i64 (l).pi, .int .i64 (l).fee, .int .i64 (l).pen, .int .i64 (l).chg, .int .i64 (l).prov, .int .i64 (l).loss, .int .i64 (l).rcv, .int .i64 ((l).tm).me, .int .i64 ((l).tm).pr, .int .i64 ((l).tm).ppm, .int .i64 ((l).tm).stt, .int .i64 ((l).tm).ev, .int .i64 ((l).tm).ct, .int .i64 ((l).tm).ba, .int .i64 ((l).tm).mo, .int .i64 ((l).tm).pen, .int .i64 ((l).tm).fe, .string ((l).tm).cal, .string ((l).tm).cur, .slice da (l).ds.length dk, .slice (some ⟨b, off, none⟩) (l).cs.length ck] 31 wr.heap.size #[.int .i64 d.day, .int .i64 d.amt, .int .i64 (d.old).me, .int .i64 (d.old).pr, .int .i64 (d.old).ppm, .int .i64 (d.old).stt, .int .i64 (d.old).ev, .int .i64 (d.old).ct, .int .i64 (d.old).ba, .int .i64 (d.old).mo, .int .i64 (d.old).pen, .int .i64 (d.old).fe, .string (d.old).cal, .string (d.old).cur] 75 W) (h0 : 0 < k) => cell_later hW.2 (cell_later hbq (hpv h0)))
      clear hm hpv l24 k0
      by_cases h1 : 0 ≤ d.day ∧ d.day ≤ 73048
      · by_cases h2 : d.amt < 1
        · have HF := Lib.hid (HNO.out (show chgB l.cs k = false by rw [hcb]; simp; omega))
          clear hcb HNO
          have f1 : decide (d.amt < 1) = true := decide_eq_true h2
          have hS0 : SL wq w.heap.size #[.int .i64 (l).id, .int .i64 (l).ac, .int .i64 (l).st, .int .i64 (l).pp, .int .i64 (l).pi, .int .i64 (l).fee, .int .i64 (l).pen, .int .i64 (l).chg, .int .i64 (l).prov, .int .i64 (l).loss, .int .i64 (l).rcv, .int .i64 ((l).tm).me, .int .i64 ((l).tm).pr, .int .i64 ((l).tm).ppm, .int .i64 ((l).tm).stt, .int .i64 ((l).tm).ev, .int .i64 ((l).tm).ct, .int .i64 ((l).tm).ba, .int .i64 ((l).tm).mo, .int .i64 ((l).tm).pen, .int .i64 ((l).tm).fe, .string ((l).tm).cal, .string ((l).tm).cur, .slice da (l).ds.length dk, .slice (some ⟨b, off, none⟩) (l).cs.length ck] 31 wr.heap.size #[.int .i64 d.day, .int .i64 d.amt, .int .i64 (d.old).me, .int .i64 (d.old).pr, .int .i64 (d.old).ppm, .int .i64 (d.old).stt, .int .i64 (d.old).ev, .int .i64 (d.old).ct, .int .i64 (d.old).ba, .int .i64 (d.old).mo, .int .i64 (d.old).pen, .int .i64 (d.old).fe, .string (d.old).cal, .string (d.old).cur] 75 wq.drew := ⟨⟨k0q.drew, hkq.drew⟩, (Below.refl _ _).drew⟩
          refine wp_region_held_drew (S := SL wq w.heap.size #[.int .i64 (l).id, .int .i64 (l).ac, .int .i64 (l).st, .int .i64 (l).pp, .int .i64 (l).pi, .int .i64 (l).fee, .int .i64 (l).pen, .int .i64 (l).chg, .int .i64 (l).prov, .int .i64 (l).loss, .int .i64 (l).rcv, .int .i64 ((l).tm).me, .int .i64 ((l).tm).pr, .int .i64 ((l).tm).ppm, .int .i64 ((l).tm).stt, .int .i64 ((l).tm).ev, .int .i64 ((l).tm).ct, .int .i64 ((l).tm).ba, .int .i64 ((l).tm).mo, .int .i64 ((l).tm).pen, .int .i64 ((l).tm).fe, .string ((l).tm).cal, .string ((l).tm).cur, .slice da (l).ds.length dk, .slice (some ⟨b, off, none⟩) (l).cs.length ck] 31 wr.heap.size #[.int .i64 d.day, .int .i64 d.amt, .int .i64 (d.old).me, .int .i64 (d.old).pr, .int .i64 (d.old).ppm, .int .i64 (d.old).stt, .int .i64 (d.old).ev, .int .i64 (d.old).ct, .int .i64 (d.old).ba, .int .i64 (d.old).mo, .int .i64 (d.old).pen, .int .i64 (d.old).fe, .string (d.old).cal, .string (d.old).cur] 75) (by kernel_rfl) hS0 (fun hS => ?_)
          clear hS0 k0q hkq
          refine tk 0 (by decide) ?_ hS (by kernel_rfl) (by kernel_rfl) (by kernel_rfl) (by rfl) (fun _ _ _ h => h) ?_ ?_
          rotate_left
          · intro W hW
            clear hW
            simp only [z0, z1]
            go_simp
            first | done | with_reducible rfl
          simp only [z0, z1, Act.put, z3, z4, z5]
          refine tk 1 (by decide) ?_ hS (by kernel_rfl) (by kernel_rfl) (by kernel_rfl) (by rfl) (fun _ _ _ h => h) ?_ ?_
          rotate_left
          · intro W hW
            have e0 := hW.1.2.c0; have e1 := hW.1.2.c1
            clear hW
            simp only [z0, z1]
            go_simp
            first | done | with_reducible rfl
          simp only [z0, z1, Act.put, z3, z4, z5]
          refine call_at 2 (by decide) (Pi := (fun v _ => v = .bool true)) (by kernel_rfl) (by rfl) (by simp only [z0, z1]; go_simp; first | done | rfl | exact ⟨rfl, rfl⟩) (call_one SL.mono hS (dv_yes _ _ h1)) ?_
          clear hS
          rintro w5 u hS rfl
          simp only [z0, z1, Act.put, z3, z4, z5]
          refine tk 3 (by decide) ?_ hS (by kernel_rfl) (by kernel_rfl) (by kernel_rfl) (by rfl) (fun _ _ _ h => h) ?_ ?_
          rotate_left
          · intro W hW
            clear hW
            simp only [z0, z1]
            go_simp
            first | done | with_reducible rfl
          simp only [z0, z1, Act.put, z3, z4, z5]
          refine tk 4 (by decide) ?_ hS (by kernel_rfl) (by kernel_rfl) (by kernel_rfl) (by rfl) (fun _ _ _ h => h) ?_ ?_
          rotate_left
          · intro W hW
            clear hW
            simp only [z0, z1]
            go_simp
            first | done | with_reducible rfl
          simp only [z0, z1, Act.put, z3, z4, z5]
          refine tk 5 (by decide) ?_ hS (by kernel_rfl) (by kernel_rfl) (by kernel_rfl) (by rfl) (fun _ _ _ h => h) ?_ ?_
          rotate_left
          · intro W hW
            clear hW
            simp only [z0, z1]
            go_simp
            first | done | with_reducible rfl
          simp only [z0, z1, Act.put, z3, z4, z5]
          refine tk 6 (by decide) ?_ hS (by kernel_rfl) (by kernel_rfl) (by kernel_rfl) (by rfl) (fun _ _ _ h => h) ?_ ?_
          rotate_left
          · intro W hW
            have e0 := hW.1.2.c0; have e1 := hW.1.2.c1
            clear hW
            simp only [z0, z1]
            go_simp
            first | done | with_reducible rfl
          simp only [z0, z1, Act.put, z3, z4, z5]
          refine tk 7 (by decide) ?_ hS (by kernel_rfl) (by kernel_rfl) (by kernel_rfl) (by rfl) (fun _ _ _ h => h) ?_ ?_
          rotate_left
          · intro W hW
            clear hW
            simp only [z0, z1]
            go_simp
            first | done | with_reducible rfl
          simp only [z0, z1, Act.put, z3, z4, z5]
          refine tk 8 (by decide) ?_ hS (by kernel_rfl) (by kernel_rfl) (by kernel_rfl) (by rfl) (fun _ _ _ h => h) ?_ ?_
          rotate_left
          · intro W hW
            clear hW
            simp only [z0, z1]
            go_simp
            first | done | with_reducible rfl
          simp only [z0, z1, Act.put, z3, z4, z5]
          refine tk 9 (by decide) ?_ hS (by kernel_rfl) (by kernel_rfl) (by kernel_rfl) (by rfl) (fun _ _ _ h => h) ?_ ?_
          rotate_left
          · intro W hW
            clear hW
            simp only [z0, z1]
            go_simp
            first | done | with_reducible rfl
          simp only [z0, z1, Act.put, z3, z4, z5]
          refine ts 10 (by decide) hS (by kernel_rfl) (by kernel_rfl) (by kernel_rfl) (by rfl) (fun _ _ _ h => h) ?_
          simp only [z0, z1, Act.put, z3, z4, z5]
          refine ts 11 (by decide) hS (by kernel_rfl) (by kernel_rfl) (by kernel_rfl) (by rfl) (fun _ _ _ h => h) ?_
          simp only [z0, z1, Act.put, z3, z4, z5]
          refine ts 12 (by decide) hS (by kernel_rfl) (by kernel_rfl) (by kernel_rfl) (by rfl) (fun _ _ _ h => h) ?_
          simp only [z0, z1, Act.put, z3, z4, z5]
          refine tk 13 (by decide) ?_ hS (by kernel_rfl) (by kernel_rfl) (by kernel_rfl) (by rfl) (fun _ _ _ h => h) ?_ ?_
          rotate_left
          · intro W hW
            clear hW
            simp only [z0, z1]
            go_simp
            first | done | with_reducible rfl
          simp only [z0, z1, Act.put, z3, z4, z5]
          refine tk 14 (by decide) ?_ hS (by kernel_rfl) (by kernel_rfl) (by kernel_rfl) (by rfl) (fun _ _ _ h => h) ?_ ?_
          rotate_left
          · intro W hW
            clear hW
            simp only [z0, z1]
            go_simp
            first | done | with_reducible rfl
          simp only [z0, z1, Act.put, z3, z4, z5]
          refine ts 15 (by decide) hS (by kernel_rfl) (by kernel_rfl) (by kernel_rfl) (by rfl) (fun _ _ _ h => h) ?_
          simp only [z0, z1, Act.put, z3, z4, z5]
          refine ts 16 (by decide) hS (by kernel_rfl) (by kernel_rfl) (by kernel_rfl) (by rfl) (fun _ _ _ h => h) ?_
          simp only [z0, z1, Act.put, z3, z4, z5]
          refine ts 17 (by decide) hS (by kernel_rfl) (by kernel_rfl) (by kernel_rfl) (by rfl) (fun _ _ _ h => h) ?_
          simp only [z0, z1, Act.put, z3, z4, z5]
          refine ts 18 (by decide) hS (by kernel_rfl) (by kernel_rfl) (by kernel_rfl) (by rfl) (fun _ _ _ h => h) ?_
          simp only [z0, z1, Act.put, z3, z4, z5]
          refine ts 19 (by decide) hS (by kernel_rfl) (by kernel_rfl) (by kernel_rfl) (by rfl) (fun _ _ _ h => h) ?_
          simp only [z0, z1, Act.put, z3, z4, z5]
          refine ts 20 (by decide) hS (by kernel_rfl) (by kernel_rfl) (by kernel_rfl) (by rfl) (fun _ _ _ h => h) ?_
          simp only [z0, z1, Act.put, z3, z4, z5]
          refine ts 21 (by decide) hS (by kernel_rfl) (by kernel_rfl) (by kernel_rfl) (by rfl) (fun _ _ _ h => h) ?_
          simp only [z0, z1, Act.put, z3, z4, z5]
          refine ts 22 (by decide) hS (by kernel_rfl) (by kernel_rfl) (by kernel_rfl) (by rfl) (fun _ _ _ h => h) ?_
          simp only [z0, z1, Act.put, z3, z4, z5]
          refine ts 23 (by decide) hS (by kernel_rfl) (by kernel_rfl) (by kernel_rfl) (by rfl) (fun _ _ _ h => h) ?_
          simp only [z0, z1, Act.put, z3, z4, z5]
          refine ts 24 (by decide) hS (by kernel_rfl) (by kernel_rfl) (by kernel_rfl) (by rfl) (fun _ _ _ h => h) ?_
          simp only [z0, z1, Act.put, z3, z4, z5]
          refine ts 25 (by decide) hS (by kernel_rfl) (by kernel_rfl) (by kernel_rfl) (by rfl) (fun _ _ _ h => h) ?_
          simp only [z0, z1, Act.put, z3, z4, z5]
          refine ts 26 (by decide) hS (by kernel_rfl) (by kernel_rfl) (by kernel_rfl) (by rfl) (fun _ _ _ h => h) ?_
          simp only [z0, z1, Act.put, z3, z4, z5]
          refine ts 27 (by decide) hS (by kernel_rfl) (by kernel_rfl) (by kernel_rfl) (by rfl) (fun _ _ _ h => h) ?_
          simp only [z0, z1, Act.put, z3, z4, z5]
          refine ts 28 (by decide) hS (by kernel_rfl) (by kernel_rfl) (by kernel_rfl) (by rfl) (fun _ _ _ h => h) ?_
          simp only [z0, z1, Act.put, z3, z4, z5]
          refine tk 29 (by decide) ?_ hS (by kernel_rfl) (by kernel_rfl) (by kernel_rfl) (by rfl) (fun _ _ _ h => h) ?_ ?_
          rotate_left
          · intro W hW
            clear hW
            simp only [z0, z1]
            go_simp
            first | done | with_reducible rfl
          simp only [z0, z1, Act.put, z3, z4, z5]
          refine wpAnyH_done (by kernel_rfl) ?_ _
          go_wp2_with fail
          go_ret
          exact ⟨by rw [HF.out]; try rfl, bl2 hS.2 (bl2 cwq cw1)⟩
        · have f1 : decide (d.amt < 1) = false := decide_eq_false h2
          by_cases h3 : 1000000000000 < d.amt
          · have HF := Lib.hid (HNO.out (show chgB l.cs k = false by rw [hcb]; simp; omega))
            clear hcb HNO
            have f2 : decide (1000000000000 < d.amt) = true := decide_eq_true h3
            have hS0 : SL wq w.heap.size #[.int .i64 (l).id, .int .i64 (l).ac, .int .i64 (l).st, .int .i64 (l).pp, .int .i64 (l).pi, .int .i64 (l).fee, .int .i64 (l).pen, .int .i64 (l).chg, .int .i64 (l).prov, .int .i64 (l).loss, .int .i64 (l).rcv, .int .i64 ((l).tm).me, .int .i64 ((l).tm).pr, .int .i64 ((l).tm).ppm, .int .i64 ((l).tm).stt, .int .i64 ((l).tm).ev, .int .i64 ((l).tm).ct, .int .i64 ((l).tm).ba, .int .i64 ((l).tm).mo, .int .i64 ((l).tm).pen, .int .i64 ((l).tm).fe, .string ((l).tm).cal, .string ((l).tm).cur, .slice da (l).ds.length dk, .slice (some ⟨b, off, none⟩) (l).cs.length ck] 31 wr.heap.size #[.int .i64 d.day, .int .i64 d.amt, .int .i64 (d.old).me, .int .i64 (d.old).pr, .int .i64 (d.old).ppm, .int .i64 (d.old).stt, .int .i64 (d.old).ev, .int .i64 (d.old).ct, .int .i64 (d.old).ba, .int .i64 (d.old).mo, .int .i64 (d.old).pen, .int .i64 (d.old).fe, .string (d.old).cal, .string (d.old).cur] 75 wq.drew := ⟨⟨k0q.drew, hkq.drew⟩, (Below.refl _ _).drew⟩
            refine wp_region_held_drew (S := SL wq w.heap.size #[.int .i64 (l).id, .int .i64 (l).ac, .int .i64 (l).st, .int .i64 (l).pp, .int .i64 (l).pi, .int .i64 (l).fee, .int .i64 (l).pen, .int .i64 (l).chg, .int .i64 (l).prov, .int .i64 (l).loss, .int .i64 (l).rcv, .int .i64 ((l).tm).me, .int .i64 ((l).tm).pr, .int .i64 ((l).tm).ppm, .int .i64 ((l).tm).stt, .int .i64 ((l).tm).ev, .int .i64 ((l).tm).ct, .int .i64 ((l).tm).ba, .int .i64 ((l).tm).mo, .int .i64 ((l).tm).pen, .int .i64 ((l).tm).fe, .string ((l).tm).cal, .string ((l).tm).cur, .slice da (l).ds.length dk, .slice (some ⟨b, off, none⟩) (l).cs.length ck] 31 wr.heap.size #[.int .i64 d.day, .int .i64 d.amt, .int .i64 (d.old).me, .int .i64 (d.old).pr, .int .i64 (d.old).ppm, .int .i64 (d.old).stt, .int .i64 (d.old).ev, .int .i64 (d.old).ct, .int .i64 (d.old).ba, .int .i64 (d.old).mo, .int .i64 (d.old).pen, .int .i64 (d.old).fe, .string (d.old).cal, .string (d.old).cur] 75) (by kernel_rfl) hS0 (fun hS => ?_)
            clear hS0 k0q hkq
            refine tk 0 (by decide) ?_ hS (by kernel_rfl) (by kernel_rfl) (by kernel_rfl) (by rfl) (fun _ _ _ h => h) ?_ ?_
            rotate_left
            · intro W hW
              clear hW
              simp only [z0, z1]
              go_simp
              first | done | with_reducible rfl
            simp only [z0, z1, Act.put, z3, z4, z5]
            refine tk 1 (by decide) ?_ hS (by kernel_rfl) (by kernel_rfl) (by kernel_rfl) (by rfl) (fun _ _ _ h => h) ?_ ?_
            rotate_left
            · intro W hW
              have e0 := hW.1.2.c0; have e1 := hW.1.2.c1
              clear hW
              simp only [z0, z1]
              go_simp
              first | done | with_reducible rfl
            simp only [z0, z1, Act.put, z3, z4, z5]
            refine call_at 2 (by decide) (Pi := (fun v _ => v = .bool true)) (by kernel_rfl) (by rfl) (by simp only [z0, z1]; go_simp; first | done | rfl | exact ⟨rfl, rfl⟩) (call_one SL.mono hS (dv_yes _ _ h1)) ?_
            clear hS
            rintro w5 u hS rfl
            simp only [z0, z1, Act.put, z3, z4, z5]
            refine tk 3 (by decide) ?_ hS (by kernel_rfl) (by kernel_rfl) (by kernel_rfl) (by rfl) (fun _ _ _ h => h) ?_ ?_
            rotate_left
            · intro W hW
              clear hW
              simp only [z0, z1]
              go_simp
              first | done | with_reducible rfl
            simp only [z0, z1, Act.put, z3, z4, z5]
            refine tk 4 (by decide) ?_ hS (by kernel_rfl) (by kernel_rfl) (by kernel_rfl) (by rfl) (fun _ _ _ h => h) ?_ ?_
            rotate_left
            · intro W hW
              clear hW
              simp only [z0, z1]
              go_simp
              first | done | with_reducible rfl
            simp only [z0, z1, Act.put, z3, z4, z5]
            refine tk 5 (by decide) ?_ hS (by kernel_rfl) (by kernel_rfl) (by kernel_rfl) (by rfl) (fun _ _ _ h => h) ?_ ?_
            rotate_left
            · intro W hW
              clear hW
              simp only [z0, z1]
              go_simp
              first | done | with_reducible rfl
            simp only [z0, z1, Act.put, z3, z4, z5]
            refine tk 6 (by decide) ?_ hS (by kernel_rfl) (by kernel_rfl) (by kernel_rfl) (by rfl) (fun _ _ _ h => h) ?_ ?_
            rotate_left
            · intro W hW
              have e0 := hW.1.2.c0; have e1 := hW.1.2.c1
              clear hW
              simp only [z0, z1]
              go_simp
              first | done | with_reducible rfl
            simp only [z0, z1, Act.put, z3, z4, z5]
            refine tk 7 (by decide) ?_ hS (by kernel_rfl) (by kernel_rfl) (by kernel_rfl) (by rfl) (fun _ _ _ h => h) ?_ ?_
            rotate_left
            · intro W hW
              clear hW
              simp only [z0, z1]
              go_simp
              first | done | with_reducible rfl
            simp only [z0, z1, Act.put, z3, z4, z5]
            refine tk 8 (by decide) ?_ hS (by kernel_rfl) (by kernel_rfl) (by kernel_rfl) (by rfl) (fun _ _ _ h => h) ?_ ?_
            rotate_left
            · intro W hW
              clear hW
              simp only [z0, z1]
              go_simp
              first | done | with_reducible rfl
            simp only [z0, z1, Act.put, z3, z4, z5]
            refine tk 9 (by decide) ?_ hS (by kernel_rfl) (by kernel_rfl) (by kernel_rfl) (by rfl) (fun _ _ _ h => h) ?_ ?_
            rotate_left
            · intro W hW
              clear hW
              simp only [z0, z1]
              go_simp
              first | done | with_reducible rfl
            simp only [z0, z1, Act.put, z3, z4, z5]
            refine tk 10 (by decide) ?_ hS (by kernel_rfl) (by kernel_rfl) (by kernel_rfl) (by rfl) (fun _ _ _ h => h) ?_ ?_
            rotate_left
            · intro W hW
              clear hW
              simp only [z0, z1]
              go_simp
              first | done | with_reducible rfl
            simp only [z0, z1, Act.put, z3, z4, z5]
            refine tk 11 (by decide) ?_ hS (by kernel_rfl) (by kernel_rfl) (by kernel_rfl) (by rfl) (fun _ _ _ h => h) ?_ ?_
            rotate_left
            · intro W hW
              have e0 := hW.1.2.c0; have e1 := hW.1.2.c1
              clear hW
              simp only [z0, z1]
              go_simp
              first | done | with_reducible rfl
            simp only [z0, z1, Act.put, z3, z4, z5]
            refine tk 12 (by decide) ?_ hS (by kernel_rfl) (by kernel_rfl) (by kernel_rfl) (by rfl) (fun _ _ _ h => h) ?_ ?_
            rotate_left
            · intro W hW
              clear hW
              simp only [z0, z1]
              go_simp
              first | done | with_reducible rfl
            simp only [z0, z1, Act.put, z3, z4, z5]
            refine tk 13 (by decide) ?_ hS (by kernel_rfl) (by kernel_rfl) (by kernel_rfl) (by rfl) (fun _ _ _ h => h) ?_ ?_
            rotate_left
            · intro W hW
              clear hW
              simp only [z0, z1]
              go_simp
              first | done | with_reducible rfl
            simp only [z0, z1, Act.put, z3, z4, z5]
            refine tk 14 (by decide) ?_ hS (by kernel_rfl) (by kernel_rfl) (by kernel_rfl) (by rfl) (fun _ _ _ h => h) ?_ ?_
            rotate_left
            · intro W hW
              clear hW
              simp only [z0, z1]
              go_simp
              first | done | with_reducible rfl
            simp only [z0, z1, Act.put, z3, z4, z5]
            refine ts 15 (by decide) hS (by kernel_rfl) (by kernel_rfl) (by kernel_rfl) (by rfl) (fun _ _ _ h => h) ?_
            simp only [z0, z1, Act.put, z3, z4, z5]
            refine ts 16 (by decide) hS (by kernel_rfl) (by kernel_rfl) (by kernel_rfl) (by rfl) (fun _ _ _ h => h) ?_
            simp only [z0, z1, Act.put, z3, z4, z5]
            refine ts 17 (by decide) hS (by kernel_rfl) (by kernel_rfl) (by kernel_rfl) (by rfl) (fun _ _ _ h => h) ?_
            simp only [z0, z1, Act.put, z3, z4, z5]
            refine ts 18 (by decide) hS (by kernel_rfl) (by kernel_rfl) (by kernel_rfl) (by rfl) (fun _ _ _ h => h) ?_
            simp only [z0, z1, Act.put, z3, z4, z5]
            refine ts 19 (by decide) hS (by kernel_rfl) (by kernel_rfl) (by kernel_rfl) (by rfl) (fun _ _ _ h => h) ?_
            simp only [z0, z1, Act.put, z3, z4, z5]
            refine ts 20 (by decide) hS (by kernel_rfl) (by kernel_rfl) (by kernel_rfl) (by rfl) (fun _ _ _ h => h) ?_
            simp only [z0, z1, Act.put, z3, z4, z5]
            refine ts 21 (by decide) hS (by kernel_rfl) (by kernel_rfl) (by kernel_rfl) (by rfl) (fun _ _ _ h => h) ?_
            simp only [z0, z1, Act.put, z3, z4, z5]
            refine ts 22 (by decide) hS (by kernel_rfl) (by kernel_rfl) (by kernel_rfl) (by rfl) (fun _ _ _ h => h) ?_
            simp only [z0, z1, Act.put, z3, z4, z5]
            refine ts 23 (by decide) hS (by kernel_rfl) (by kernel_rfl) (by kernel_rfl) (by rfl) (fun _ _ _ h => h) ?_
            simp only [z0, z1, Act.put, z3, z4, z5]
            refine ts 24 (by decide) hS (by kernel_rfl) (by kernel_rfl) (by kernel_rfl) (by rfl) (fun _ _ _ h => h) ?_
            simp only [z0, z1, Act.put, z3, z4, z5]
            refine ts 25 (by decide) hS (by kernel_rfl) (by kernel_rfl) (by kernel_rfl) (by rfl) (fun _ _ _ h => h) ?_
            simp only [z0, z1, Act.put, z3, z4, z5]
            refine ts 26 (by decide) hS (by kernel_rfl) (by kernel_rfl) (by kernel_rfl) (by rfl) (fun _ _ _ h => h) ?_
            simp only [z0, z1, Act.put, z3, z4, z5]
            refine ts 27 (by decide) hS (by kernel_rfl) (by kernel_rfl) (by kernel_rfl) (by rfl) (fun _ _ _ h => h) ?_
            simp only [z0, z1, Act.put, z3, z4, z5]
            refine ts 28 (by decide) hS (by kernel_rfl) (by kernel_rfl) (by kernel_rfl) (by rfl) (fun _ _ _ h => h) ?_
            simp only [z0, z1, Act.put, z3, z4, z5]
            refine tk 29 (by decide) ?_ hS (by kernel_rfl) (by kernel_rfl) (by kernel_rfl) (by rfl) (fun _ _ _ h => h) ?_ ?_
            rotate_left
            · intro W hW
              clear hW
              simp only [z0, z1]
              go_simp
              first | done | with_reducible rfl
            simp only [z0, z1, Act.put, z3, z4, z5]
            refine wpAnyH_done (by kernel_rfl) ?_ _
            go_wp2_with fail
            go_ret
            exact ⟨by rw [HF.out]; try rfl, bl2 hS.2 (bl2 cwq cw1)⟩
          · have f2 : decide (1000000000000 < d.amt) = false := decide_eq_false h3
            by_cases h4 : k = 0
            · have HT := Lib.hid (show chgB l.cs k = true by rw [hcb]; simp; omega)
              clear hcb HNO
              have f4 : decide (0 < (k : Int)) = false := decide_eq_false (by omega)
              clear HPC
              have hS0 : SL wq w.heap.size #[.int .i64 (l).id, .int .i64 (l).ac, .int .i64 (l).st, .int .i64 (l).pp, .int .i64 (l).pi, .int .i64 (l).fee, .int .i64 (l).pen, .int .i64 (l).chg, .int .i64 (l).prov, .int .i64 (l).loss, .int .i64 (l).rcv, .int .i64 ((l).tm).me, .int .i64 ((l).tm).pr, .int .i64 ((l).tm).ppm, .int .i64 ((l).tm).stt, .int .i64 ((l).tm).ev, .int .i64 ((l).tm).ct, .int .i64 ((l).tm).ba, .int .i64 ((l).tm).mo, .int .i64 ((l).tm).pen, .int .i64 ((l).tm).fe, .string ((l).tm).cal, .string ((l).tm).cur, .slice da (l).ds.length dk, .slice (some ⟨b, off, none⟩) (l).cs.length ck] 31 wr.heap.size #[.int .i64 d.day, .int .i64 d.amt, .int .i64 (d.old).me, .int .i64 (d.old).pr, .int .i64 (d.old).ppm, .int .i64 (d.old).stt, .int .i64 (d.old).ev, .int .i64 (d.old).ct, .int .i64 (d.old).ba, .int .i64 (d.old).mo, .int .i64 (d.old).pen, .int .i64 (d.old).fe, .string (d.old).cal, .string (d.old).cur] 75 wq.drew := ⟨⟨k0q.drew, hkq.drew⟩, (Below.refl _ _).drew⟩
              refine wp_region_held_drew (S := SL wq w.heap.size #[.int .i64 (l).id, .int .i64 (l).ac, .int .i64 (l).st, .int .i64 (l).pp, .int .i64 (l).pi, .int .i64 (l).fee, .int .i64 (l).pen, .int .i64 (l).chg, .int .i64 (l).prov, .int .i64 (l).loss, .int .i64 (l).rcv, .int .i64 ((l).tm).me, .int .i64 ((l).tm).pr, .int .i64 ((l).tm).ppm, .int .i64 ((l).tm).stt, .int .i64 ((l).tm).ev, .int .i64 ((l).tm).ct, .int .i64 ((l).tm).ba, .int .i64 ((l).tm).mo, .int .i64 ((l).tm).pen, .int .i64 ((l).tm).fe, .string ((l).tm).cal, .string ((l).tm).cur, .slice da (l).ds.length dk, .slice (some ⟨b, off, none⟩) (l).cs.length ck] 31 wr.heap.size #[.int .i64 d.day, .int .i64 d.amt, .int .i64 (d.old).me, .int .i64 (d.old).pr, .int .i64 (d.old).ppm, .int .i64 (d.old).stt, .int .i64 (d.old).ev, .int .i64 (d.old).ct, .int .i64 (d.old).ba, .int .i64 (d.old).mo, .int .i64 (d.old).pen, .int .i64 (d.old).fe, .string (d.old).cal, .string (d.old).cur] 75) (by kernel_rfl) hS0 (fun hS => ?_)
              clear hS0 k0q hkq
              refine tk 0 (by decide) ?_ hS (by kernel_rfl) (by kernel_rfl) (by kernel_rfl) (by rfl) (fun _ _ _ h => h) ?_ ?_
              rotate_left
              · intro W hW
                clear hW
                simp only [z0, z1]
                go_simp
                first | done | with_reducible rfl
              simp only [z0, z1, Act.put, z3, z4, z5]
              refine tk 1 (by decide) ?_ hS (by kernel_rfl) (by kernel_rfl) (by kernel_rfl) (by rfl) (fun _ _ _ h => h) ?_ ?_
              rotate_left
              · intro W hW
                have e0 := hW.1.2.c0; have e1 := hW.1.2.c1
                clear hW
                simp only [z0, z1]
                go_simp
                first | done | with_reducible rfl
              simp only [z0, z1, Act.put, z3, z4, z5]
              refine call_at 2 (by decide) (Pi := (fun v _ => v = .bool true)) (by kernel_rfl) (by rfl) (by simp only [z0, z1]; go_simp; first | done | rfl | exact ⟨rfl, rfl⟩) (call_one SL.mono hS (dv_yes _ _ h1)) ?_
              clear hS
              rintro w5 u hS rfl
              simp only [z0, z1, Act.put, z3, z4, z5]
              refine tk 3 (by decide) ?_ hS (by kernel_rfl) (by kernel_rfl) (by kernel_rfl) (by rfl) (fun _ _ _ h => h) ?_ ?_
              rotate_left
              · intro W hW
                clear hW
                simp only [z0, z1]
                go_simp
                first | done | with_reducible rfl
              simp only [z0, z1, Act.put, z3, z4, z5]
              refine tk 4 (by decide) ?_ hS (by kernel_rfl) (by kernel_rfl) (by kernel_rfl) (by rfl) (fun _ _ _ h => h) ?_ ?_
              rotate_left
              · intro W hW
                clear hW
                simp only [z0, z1]
                go_simp
                first | done | with_reducible rfl
              simp only [z0, z1, Act.put, z3, z4, z5]
              refine tk 5 (by decide) ?_ hS (by kernel_rfl) (by kernel_rfl) (by kernel_rfl) (by rfl) (fun _ _ _ h => h) ?_ ?_
              rotate_left
              · intro W hW
                clear hW
                simp only [z0, z1]
                go_simp
                first | done | with_reducible rfl
              simp only [z0, z1, Act.put, z3, z4, z5]
              refine tk 6 (by decide) ?_ hS (by kernel_rfl) (by kernel_rfl) (by kernel_rfl) (by rfl) (fun _ _ _ h => h) ?_ ?_
              rotate_left
              · intro W hW
                have e0 := hW.1.2.c0; have e1 := hW.1.2.c1
                clear hW
                simp only [z0, z1]
                go_simp
                first | done | with_reducible rfl
              simp only [z0, z1, Act.put, z3, z4, z5]
              refine tk 7 (by decide) ?_ hS (by kernel_rfl) (by kernel_rfl) (by kernel_rfl) (by rfl) (fun _ _ _ h => h) ?_ ?_
              rotate_left
              · intro W hW
                clear hW
                simp only [z0, z1]
                go_simp
                first | done | with_reducible rfl
              simp only [z0, z1, Act.put, z3, z4, z5]
              refine tk 8 (by decide) ?_ hS (by kernel_rfl) (by kernel_rfl) (by kernel_rfl) (by rfl) (fun _ _ _ h => h) ?_ ?_
              rotate_left
              · intro W hW
                clear hW
                simp only [z0, z1]
                go_simp
                first | done | with_reducible rfl
              simp only [z0, z1, Act.put, z3, z4, z5]
              refine tk 9 (by decide) ?_ hS (by kernel_rfl) (by kernel_rfl) (by kernel_rfl) (by rfl) (fun _ _ _ h => h) ?_ ?_
              rotate_left
              · intro W hW
                clear hW
                simp only [z0, z1]
                go_simp
                first | done | with_reducible rfl
              simp only [z0, z1, Act.put, z3, z4, z5]
              refine tk 10 (by decide) ?_ hS (by kernel_rfl) (by kernel_rfl) (by kernel_rfl) (by rfl) (fun _ _ _ h => h) ?_ ?_
              rotate_left
              · intro W hW
                clear hW
                simp only [z0, z1]
                go_simp
                first | done | with_reducible rfl
              simp only [z0, z1, Act.put, z3, z4, z5]
              refine tk 11 (by decide) ?_ hS (by kernel_rfl) (by kernel_rfl) (by kernel_rfl) (by rfl) (fun _ _ _ h => h) ?_ ?_
              rotate_left
              · intro W hW
                have e0 := hW.1.2.c0; have e1 := hW.1.2.c1
                clear hW
                simp only [z0, z1]
                go_simp
                first | done | with_reducible rfl
              simp only [z0, z1, Act.put, z3, z4, z5]
              refine tk 12 (by decide) ?_ hS (by kernel_rfl) (by kernel_rfl) (by kernel_rfl) (by rfl) (fun _ _ _ h => h) ?_ ?_
              rotate_left
              · intro W hW
                clear hW
                simp only [z0, z1]
                go_simp
                first | done | with_reducible rfl
              simp only [z0, z1, Act.put, z3, z4, z5]
              refine tk 13 (by decide) ?_ hS (by kernel_rfl) (by kernel_rfl) (by kernel_rfl) (by rfl) (fun _ _ _ h => h) ?_ ?_
              rotate_left
              · intro W hW
                clear hW
                simp only [z0, z1]
                go_simp
                first | done | with_reducible rfl
              simp only [z0, z1, Act.put, z3, z4, z5]
              refine tk 14 (by decide) ?_ hS (by kernel_rfl) (by kernel_rfl) (by kernel_rfl) (by rfl) (fun _ _ _ h => h) ?_ ?_
              rotate_left
              · intro W hW
                clear hW
                simp only [z0, z1]
                go_simp
                first | done | with_reducible rfl
              simp only [z0, z1, Act.put, z3, z4, z5]
              refine tk 15 (by decide) ?_ hS (by kernel_rfl) (by kernel_rfl) (by kernel_rfl) (by rfl) (fun _ _ _ h => h) ?_ ?_
              rotate_left
              · intro W hW
                clear hW
                simp only [z0, z1]
                go_simp
                first | done | with_reducible rfl
              simp only [z0, z1, Act.put, z3, z4, z5]
              refine tk 16 (by decide) ?_ hS (by kernel_rfl) (by kernel_rfl) (by kernel_rfl) (by rfl) (fun _ _ _ h => h) ?_ ?_
              rotate_left
              · intro W hW
                clear hW
                simp only [z0, z1]
                go_simp
                first | done | with_reducible rfl
              simp only [z0, z1, Act.put, z3, z4, z5]
              refine tk 17 (by decide) ?_ hS (by kernel_rfl) (by kernel_rfl) (by kernel_rfl) (by rfl) (fun _ _ _ h => h) ?_ ?_
              rotate_left
              · intro W hW
                clear hW
                simp only [z0, z1]
                go_simp
                first | done | with_reducible rfl
              simp only [z0, z1, Act.put, z3, z4, z5]
              refine ts 18 (by decide) hS (by kernel_rfl) (by kernel_rfl) (by kernel_rfl) (by rfl) (fun _ _ _ h => h) ?_
              simp only [z0, z1, Act.put, z3, z4, z5]
              refine ts 19 (by decide) hS (by kernel_rfl) (by kernel_rfl) (by kernel_rfl) (by rfl) (fun _ _ _ h => h) ?_
              simp only [z0, z1, Act.put, z3, z4, z5]
              refine ts 20 (by decide) hS (by kernel_rfl) (by kernel_rfl) (by kernel_rfl) (by rfl) (fun _ _ _ h => h) ?_
              simp only [z0, z1, Act.put, z3, z4, z5]
              refine ts 21 (by decide) hS (by kernel_rfl) (by kernel_rfl) (by kernel_rfl) (by rfl) (fun _ _ _ h => h) ?_
              simp only [z0, z1, Act.put, z3, z4, z5]
              refine ts 22 (by decide) hS (by kernel_rfl) (by kernel_rfl) (by kernel_rfl) (by rfl) (fun _ _ _ h => h) ?_
              simp only [z0, z1, Act.put, z3, z4, z5]
              refine ts 23 (by decide) hS (by kernel_rfl) (by kernel_rfl) (by kernel_rfl) (by rfl) (fun _ _ _ h => h) ?_
              simp only [z0, z1, Act.put, z3, z4, z5]
              refine ts 24 (by decide) hS (by kernel_rfl) (by kernel_rfl) (by kernel_rfl) (by rfl) (fun _ _ _ h => h) ?_
              simp only [z0, z1, Act.put, z3, z4, z5]
              refine ts 25 (by decide) hS (by kernel_rfl) (by kernel_rfl) (by kernel_rfl) (by rfl) (fun _ _ _ h => h) ?_
              simp only [z0, z1, Act.put, z3, z4, z5]
              refine ts 26 (by decide) hS (by kernel_rfl) (by kernel_rfl) (by kernel_rfl) (by rfl) (fun _ _ _ h => h) ?_
              simp only [z0, z1, Act.put, z3, z4, z5]
              refine ts 27 (by decide) hS (by kernel_rfl) (by kernel_rfl) (by kernel_rfl) (by rfl) (fun _ _ _ h => h) ?_
              simp only [z0, z1, Act.put, z3, z4, z5]
              refine tk 28 (by decide) ?_ hS (by kernel_rfl) (by kernel_rfl) (by kernel_rfl) (by rfl) (fun _ _ _ h => h) ?_ ?_
              rotate_left
              · intro W hW
                clear hW
                simp only [z0, z1]
                go_simp
                first | done | with_reducible rfl
              simp only [z0, z1, Act.put, z3, z4, z5]
              refine tk 29 (by decide) ?_ hS (by kernel_rfl) (by kernel_rfl) (by kernel_rfl) (by rfl) (fun _ _ _ h => h) ?_ ?_
              rotate_left
              · intro W hW
                clear hW
                simp only [z0, z1]
                go_simp
                first | done | with_reducible rfl
              simp only [z0, z1, Act.put, z3, z4, z5]
              refine wpAnyH_done (by kernel_rfl) ?_ _
              have cw5 := bl2 hS.2 cwq
              go_wp2_with fail
              go_roundg (gk - 1)
              case measure => omega
              case rel => exact ⟨k + 1, by omega, by go_num, fun j hj => by
                by_cases e : j = k
                · subst e; exact HT.out
                · exact HA.out j (by omega), cw5⟩
            · by_cases h5 : d.day < pd
              · have HF := Lib.hid (HNO.out (show chgB l.cs k = false by rw [hcb]; simp; omega))
                clear hcb HNO
                have HPC' := Lib.hid (fun W hW => HPC.out W hW (by omega))
                clear HPC
                have HPC := HPC'
                clear HPC'
                have f4 : decide (0 < (k : Int)) = true := decide_eq_true (by omega)
                have f6 : decide (0 < k) = true := decide_eq_true (by omega)
                have f7 : 0 < k := by omega
                have hw2 : IntKind.i64.wrap ((k : Int) - 1) = ((k - 1 : Nat) : Int) := by rw [IntKind.wrap_i64]; omega
                have hkn : k - 1 < l.cs.length := by omega
                have f5 : decide (d.day < pd) = true := decide_eq_true h5
                have hS0 : SL wq w.heap.size #[.int .i64 (l).id, .int .i64 (l).ac, .int .i64 (l).st, .int .i64 (l).pp, .int .i64 (l).pi, .int .i64 (l).fee, .int .i64 (l).pen, .int .i64 (l).chg, .int .i64 (l).prov, .int .i64 (l).loss, .int .i64 (l).rcv, .int .i64 ((l).tm).me, .int .i64 ((l).tm).pr, .int .i64 ((l).tm).ppm, .int .i64 ((l).tm).stt, .int .i64 ((l).tm).ev, .int .i64 ((l).tm).ct, .int .i64 ((l).tm).ba, .int .i64 ((l).tm).mo, .int .i64 ((l).tm).pen, .int .i64 ((l).tm).fe, .string ((l).tm).cal, .string ((l).tm).cur, .slice da (l).ds.length dk, .slice (some ⟨b, off, none⟩) (l).cs.length ck] 31 wr.heap.size #[.int .i64 d.day, .int .i64 d.amt, .int .i64 (d.old).me, .int .i64 (d.old).pr, .int .i64 (d.old).ppm, .int .i64 (d.old).stt, .int .i64 (d.old).ev, .int .i64 (d.old).ct, .int .i64 (d.old).ba, .int .i64 (d.old).mo, .int .i64 (d.old).pen, .int .i64 (d.old).fe, .string (d.old).cal, .string (d.old).cur] 75 wq.drew := ⟨⟨k0q.drew, hkq.drew⟩, (Below.refl _ _).drew⟩
                refine wp_region_held_drew (S := SL wq w.heap.size #[.int .i64 (l).id, .int .i64 (l).ac, .int .i64 (l).st, .int .i64 (l).pp, .int .i64 (l).pi, .int .i64 (l).fee, .int .i64 (l).pen, .int .i64 (l).chg, .int .i64 (l).prov, .int .i64 (l).loss, .int .i64 (l).rcv, .int .i64 ((l).tm).me, .int .i64 ((l).tm).pr, .int .i64 ((l).tm).ppm, .int .i64 ((l).tm).stt, .int .i64 ((l).tm).ev, .int .i64 ((l).tm).ct, .int .i64 ((l).tm).ba, .int .i64 ((l).tm).mo, .int .i64 ((l).tm).pen, .int .i64 ((l).tm).fe, .string ((l).tm).cal, .string ((l).tm).cur, .slice da (l).ds.length dk, .slice (some ⟨b, off, none⟩) (l).cs.length ck] 31 wr.heap.size #[.int .i64 d.day, .int .i64 d.amt, .int .i64 (d.old).me, .int .i64 (d.old).pr, .int .i64 (d.old).ppm, .int .i64 (d.old).stt, .int .i64 (d.old).ev, .int .i64 (d.old).ct, .int .i64 (d.old).ba, .int .i64 (d.old).mo, .int .i64 (d.old).pen, .int .i64 (d.old).fe, .string (d.old).cal, .string (d.old).cur] 75) (by kernel_rfl) hS0 (fun hS => ?_)
                clear hS0 k0q hkq
                refine tk 0 (by decide) ?_ hS (by kernel_rfl) (by kernel_rfl) (by kernel_rfl) (by rfl) (fun _ _ _ h => h) ?_ ?_
                rotate_left
                · intro W hW
                  clear hW
                  simp only [z0, z1]
                  go_simp
                  first | done | with_reducible rfl
                simp only [z0, z1, Act.put, z3, z4, z5]
                refine tk 1 (by decide) ?_ hS (by kernel_rfl) (by kernel_rfl) (by kernel_rfl) (by rfl) (fun _ _ _ h => h) ?_ ?_
                rotate_left
                · intro W hW
                  have e0 := hW.1.2.c0; have e1 := hW.1.2.c1
                  clear hW
                  simp only [z0, z1]
                  go_simp
                  first | done | with_reducible rfl
                simp only [z0, z1, Act.put, z3, z4, z5]
                refine call_at 2 (by decide) (Pi := (fun v _ => v = .bool true)) (by kernel_rfl) (by rfl) (by simp only [z0, z1]; go_simp; first | done | rfl | exact ⟨rfl, rfl⟩) (call_one SL.mono hS (dv_yes _ _ h1)) ?_
                clear hS
                rintro w5 u hS rfl
                simp only [z0, z1, Act.put, z3, z4, z5]
                refine tk 3 (by decide) ?_ hS (by kernel_rfl) (by kernel_rfl) (by kernel_rfl) (by rfl) (fun _ _ _ h => h) ?_ ?_
                rotate_left
                · intro W hW
                  clear hW
                  simp only [z0, z1]
                  go_simp
                  first | done | with_reducible rfl
                simp only [z0, z1, Act.put, z3, z4, z5]
                refine tk 4 (by decide) ?_ hS (by kernel_rfl) (by kernel_rfl) (by kernel_rfl) (by rfl) (fun _ _ _ h => h) ?_ ?_
                rotate_left
                · intro W hW
                  clear hW
                  simp only [z0, z1]
                  go_simp
                  first | done | with_reducible rfl
                simp only [z0, z1, Act.put, z3, z4, z5]
                refine tk 5 (by decide) ?_ hS (by kernel_rfl) (by kernel_rfl) (by kernel_rfl) (by rfl) (fun _ _ _ h => h) ?_ ?_
                rotate_left
                · intro W hW
                  clear hW
                  simp only [z0, z1]
                  go_simp
                  first | done | with_reducible rfl
                simp only [z0, z1, Act.put, z3, z4, z5]
                refine tk 6 (by decide) ?_ hS (by kernel_rfl) (by kernel_rfl) (by kernel_rfl) (by rfl) (fun _ _ _ h => h) ?_ ?_
                rotate_left
                · intro W hW
                  have e0 := hW.1.2.c0; have e1 := hW.1.2.c1
                  clear hW
                  simp only [z0, z1]
                  go_simp
                  first | done | with_reducible rfl
                simp only [z0, z1, Act.put, z3, z4, z5]
                refine tk 7 (by decide) ?_ hS (by kernel_rfl) (by kernel_rfl) (by kernel_rfl) (by rfl) (fun _ _ _ h => h) ?_ ?_
                rotate_left
                · intro W hW
                  clear hW
                  simp only [z0, z1]
                  go_simp
                  first | done | with_reducible rfl
                simp only [z0, z1, Act.put, z3, z4, z5]
                refine tk 8 (by decide) ?_ hS (by kernel_rfl) (by kernel_rfl) (by kernel_rfl) (by rfl) (fun _ _ _ h => h) ?_ ?_
                rotate_left
                · intro W hW
                  clear hW
                  simp only [z0, z1]
                  go_simp
                  first | done | with_reducible rfl
                simp only [z0, z1, Act.put, z3, z4, z5]
                refine tk 9 (by decide) ?_ hS (by kernel_rfl) (by kernel_rfl) (by kernel_rfl) (by rfl) (fun _ _ _ h => h) ?_ ?_
                rotate_left
                · intro W hW
                  clear hW
                  simp only [z0, z1]
                  go_simp
                  first | done | with_reducible rfl
                simp only [z0, z1, Act.put, z3, z4, z5]
                refine tk 10 (by decide) ?_ hS (by kernel_rfl) (by kernel_rfl) (by kernel_rfl) (by rfl) (fun _ _ _ h => h) ?_ ?_
                rotate_left
                · intro W hW
                  clear hW
                  simp only [z0, z1]
                  go_simp
                  first | done | with_reducible rfl
                simp only [z0, z1, Act.put, z3, z4, z5]
                refine tk 11 (by decide) ?_ hS (by kernel_rfl) (by kernel_rfl) (by kernel_rfl) (by rfl) (fun _ _ _ h => h) ?_ ?_
                rotate_left
                · intro W hW
                  have e0 := hW.1.2.c0; have e1 := hW.1.2.c1
                  clear hW
                  simp only [z0, z1]
                  go_simp
                  first | done | with_reducible rfl
                simp only [z0, z1, Act.put, z3, z4, z5]
                refine tk 12 (by decide) ?_ hS (by kernel_rfl) (by kernel_rfl) (by kernel_rfl) (by rfl) (fun _ _ _ h => h) ?_ ?_
                rotate_left
                · intro W hW
                  clear hW
                  simp only [z0, z1]
                  go_simp
                  first | done | with_reducible rfl
                simp only [z0, z1, Act.put, z3, z4, z5]
                refine tk 13 (by decide) ?_ hS (by kernel_rfl) (by kernel_rfl) (by kernel_rfl) (by rfl) (fun _ _ _ h => h) ?_ ?_
                rotate_left
                · intro W hW
                  clear hW
                  simp only [z0, z1]
                  go_simp
                  first | done | with_reducible rfl
                simp only [z0, z1, Act.put, z3, z4, z5]
                refine tk 14 (by decide) ?_ hS (by kernel_rfl) (by kernel_rfl) (by kernel_rfl) (by rfl) (fun _ _ _ h => h) ?_ ?_
                rotate_left
                · intro W hW
                  clear hW
                  simp only [z0, z1]
                  go_simp
                  first | done | with_reducible rfl
                simp only [z0, z1, Act.put, z3, z4, z5]
                refine tk 15 (by decide) ?_ hS (by kernel_rfl) (by kernel_rfl) (by kernel_rfl) (by rfl) (fun _ _ _ h => h) ?_ ?_
                rotate_left
                · intro W hW
                  clear hW
                  simp only [z0, z1]
                  go_simp
                  first | done | with_reducible rfl
                simp only [z0, z1, Act.put, z3, z4, z5]
                refine tk 16 (by decide) ?_ hS (by kernel_rfl) (by kernel_rfl) (by kernel_rfl) (by rfl) (fun _ _ _ h => h) ?_ ?_
                rotate_left
                · intro W hW
                  clear hW
                  simp only [z0, z1]
                  go_simp
                  first | done | with_reducible rfl
                simp only [z0, z1, Act.put, z3, z4, z5]
                refine tk 17 (by decide) ?_ hS (by kernel_rfl) (by kernel_rfl) (by kernel_rfl) (by rfl) (fun _ _ _ h => h) ?_ ?_
                rotate_left
                · intro W hW
                  clear hW
                  simp only [z0, z1]
                  go_simp
                  first | done | with_reducible rfl
                simp only [z0, z1, Act.put, z3, z4, z5]
                refine tk 18 (by decide) ?_ hS (by kernel_rfl) (by kernel_rfl) (by kernel_rfl) (by rfl) (fun _ _ _ h => h) ?_ ?_
                rotate_left
                · intro W hW
                  clear hW
                  simp only [z0, z1]
                  go_simp
                  first | done | with_reducible rfl
                simp only [z0, z1, Act.put, z3, z4, z5]
                refine tk 19 (by decide) ?_ hS (by kernel_rfl) (by kernel_rfl) (by kernel_rfl) (by rfl) (fun _ _ _ h => h) ?_ ?_
                rotate_left
                · intro W hW
                  have e0 := hW.1.2.c0; have e1 := hW.1.2.c1
                  clear hW
                  simp only [z0, z1]
                  go_simp
                  first | done | with_reducible rfl
                simp only [z0, z1, Act.put, z3, z4, z5]
                refine tk 20 (by decide) ?_ hS (by kernel_rfl) (by kernel_rfl) (by kernel_rfl) (by rfl) (fun _ _ _ h => h) ?_ ?_
                rotate_left
                · intro W hW
                  clear hW
                  simp only [z0, z1]
                  go_simp
                  first | done | with_reducible rfl
                simp only [z0, z1, Act.put, z3, z4, z5]
                refine tk 21 (by decide) ?_ hS (by kernel_rfl) (by kernel_rfl) (by kernel_rfl) (by rfl) (fun _ _ _ h => h) ?_ ?_
                rotate_left
                · intro W hW
                  have e24 := hW.1.1.c24
                  clear hW
                  simp only [z0, z1]
                  go_simp
                  first | done | with_reducible rfl
                simp only [z0, z1, Act.put, z3, z4, z5]
                refine tk 22 (by decide) ?_ hS (by kernel_rfl) (by kernel_rfl) (by kernel_rfl) (by rfl) (fun _ _ _ h => h) ?_ ?_
                rotate_left
                · intro W hW
                  clear hW
                  simp only [z0, z1]
                  go_simp
                  first | done | with_reducible rfl
                simp only [z0, z1, Act.put, z3, z4, z5]
                refine tk 23 (by decide) ?_ hS (by kernel_rfl) (by kernel_rfl) (by kernel_rfl) (by rfl) (fun _ _ _ h => h) ?_ ?_
                rotate_left
                · intro W hW
                  clear hW
                  simp only [z0, z1]
                  go_simp
                  first | done | with_reducible rfl
                simp only [z0, z1, Act.put, z3, z4, z5]
                refine tk 24 (by decide) ?_ hS (by kernel_rfl) (by kernel_rfl) (by kernel_rfl) (by rfl) (fun _ _ _ h => h) ?_ ?_
                rotate_left
                · intro W hW
                  clear hW
                  simp only [z0, z1]
                  go_simp
                  first | done | with_reducible rfl
                simp only [z0, z1, Act.put, z3, z4, z5]
                refine tk 25 (by decide) ?_ hS (by kernel_rfl) (by kernel_rfl) (by kernel_rfl) (by rfl) (fun _ _ _ h => h) ?_ ?_
                rotate_left
                · intro W hW
                  clear hW
                  simp only [z0, z1]
                  go_simp
                  first | done | with_reducible rfl
                simp only [z0, z1, Act.put, z3, z4, z5]
                refine tk 26 (by decide) ?_ hS (by kernel_rfl) (by kernel_rfl) (by kernel_rfl) (by rfl) (fun _ _ _ h => h) ?_ ?_
                rotate_left
                · intro W hW
                  have e5 := HPC.out W hW
                  clear hW
                  simp only [z0, z1]
                  go_simp
                  first | done | with_reducible rfl
                simp only [z0, z1, Act.put, z3, z4, z5]
                refine tk 27 (by decide) ?_ hS (by kernel_rfl) (by kernel_rfl) (by kernel_rfl) (by rfl) (fun _ _ _ h => h) ?_ ?_
                rotate_left
                · intro W hW
                  clear hW
                  simp only [z0, z1]
                  go_simp
                  first | done | with_reducible rfl
                simp only [z0, z1, Act.put, z3, z4, z5]
                refine tk 28 (by decide) ?_ hS (by kernel_rfl) (by kernel_rfl) (by kernel_rfl) (by rfl) (fun _ _ _ h => h) ?_ ?_
                rotate_left
                · intro W hW
                  clear hW
                  simp only [z0, z1]
                  go_simp
                  first | done | with_reducible rfl
                simp only [z0, z1, Act.put, z3, z4, z5]
                refine tk 29 (by decide) ?_ hS (by kernel_rfl) (by kernel_rfl) (by kernel_rfl) (by rfl) (fun _ _ _ h => h) ?_ ?_
                rotate_left
                · intro W hW
                  clear hW
                  simp only [z0, z1]
                  go_simp
                  first | done | with_reducible rfl
                simp only [z0, z1, Act.put, z3, z4, z5]
                refine wpAnyH_done (by kernel_rfl) ?_ _
                go_wp2_with fail
                go_ret
                exact ⟨by rw [HF.out]; try rfl, bl2 hS.2 (bl2 cwq cw1)⟩
              · have HT := Lib.hid (show chgB l.cs k = true by rw [hcb]; simp; omega)
                clear hcb HNO
                have HPC' := Lib.hid (fun W hW => HPC.out W hW (by omega))
                clear HPC
                have HPC := HPC'
                clear HPC'
                have f4 : decide (0 < (k : Int)) = true := decide_eq_true (by omega)
                have f6 : decide (0 < k) = true := decide_eq_true (by omega)
                have f7 : 0 < k := by omega
                have hw2 : IntKind.i64.wrap ((k : Int) - 1) = ((k - 1 : Nat) : Int) := by rw [IntKind.wrap_i64]; omega
                have hkn : k - 1 < l.cs.length := by omega
                have f5 : decide (d.day < pd) = false := decide_eq_false h5
                have hS0 : SL wq w.heap.size #[.int .i64 (l).id, .int .i64 (l).ac, .int .i64 (l).st, .int .i64 (l).pp, .int .i64 (l).pi, .int .i64 (l).fee, .int .i64 (l).pen, .int .i64 (l).chg, .int .i64 (l).prov, .int .i64 (l).loss, .int .i64 (l).rcv, .int .i64 ((l).tm).me, .int .i64 ((l).tm).pr, .int .i64 ((l).tm).ppm, .int .i64 ((l).tm).stt, .int .i64 ((l).tm).ev, .int .i64 ((l).tm).ct, .int .i64 ((l).tm).ba, .int .i64 ((l).tm).mo, .int .i64 ((l).tm).pen, .int .i64 ((l).tm).fe, .string ((l).tm).cal, .string ((l).tm).cur, .slice da (l).ds.length dk, .slice (some ⟨b, off, none⟩) (l).cs.length ck] 31 wr.heap.size #[.int .i64 d.day, .int .i64 d.amt, .int .i64 (d.old).me, .int .i64 (d.old).pr, .int .i64 (d.old).ppm, .int .i64 (d.old).stt, .int .i64 (d.old).ev, .int .i64 (d.old).ct, .int .i64 (d.old).ba, .int .i64 (d.old).mo, .int .i64 (d.old).pen, .int .i64 (d.old).fe, .string (d.old).cal, .string (d.old).cur] 75 wq.drew := ⟨⟨k0q.drew, hkq.drew⟩, (Below.refl _ _).drew⟩
                refine wp_region_held_drew (S := SL wq w.heap.size #[.int .i64 (l).id, .int .i64 (l).ac, .int .i64 (l).st, .int .i64 (l).pp, .int .i64 (l).pi, .int .i64 (l).fee, .int .i64 (l).pen, .int .i64 (l).chg, .int .i64 (l).prov, .int .i64 (l).loss, .int .i64 (l).rcv, .int .i64 ((l).tm).me, .int .i64 ((l).tm).pr, .int .i64 ((l).tm).ppm, .int .i64 ((l).tm).stt, .int .i64 ((l).tm).ev, .int .i64 ((l).tm).ct, .int .i64 ((l).tm).ba, .int .i64 ((l).tm).mo, .int .i64 ((l).tm).pen, .int .i64 ((l).tm).fe, .string ((l).tm).cal, .string ((l).tm).cur, .slice da (l).ds.length dk, .slice (some ⟨b, off, none⟩) (l).cs.length ck] 31 wr.heap.size #[.int .i64 d.day, .int .i64 d.amt, .int .i64 (d.old).me, .int .i64 (d.old).pr, .int .i64 (d.old).ppm, .int .i64 (d.old).stt, .int .i64 (d.old).ev, .int .i64 (d.old).ct, .int .i64 (d.old).ba, .int .i64 (d.old).mo, .int .i64 (d.old).pen, .int .i64 (d.old).fe, .string (d.old).cal, .string (d.old).cur] 75) (by kernel_rfl) hS0 (fun hS => ?_)
                clear hS0 k0q hkq
                refine tk 0 (by decide) ?_ hS (by kernel_rfl) (by kernel_rfl) (by kernel_rfl) (by rfl) (fun _ _ _ h => h) ?_ ?_
                rotate_left
                · intro W hW
                  clear hW
                  simp only [z0, z1]
                  go_simp
                  first | done | with_reducible rfl
                simp only [z0, z1, Act.put, z3, z4, z5]
                refine tk 1 (by decide) ?_ hS (by kernel_rfl) (by kernel_rfl) (by kernel_rfl) (by rfl) (fun _ _ _ h => h) ?_ ?_
                rotate_left
                · intro W hW
                  have e0 := hW.1.2.c0; have e1 := hW.1.2.c1
                  clear hW
                  simp only [z0, z1]
                  go_simp
                  first | done | with_reducible rfl
                simp only [z0, z1, Act.put, z3, z4, z5]
                refine call_at 2 (by decide) (Pi := (fun v _ => v = .bool true)) (by kernel_rfl) (by rfl) (by simp only [z0, z1]; go_simp; first | done | rfl | exact ⟨rfl, rfl⟩) (call_one SL.mono hS (dv_yes _ _ h1)) ?_
                clear hS
                rintro w5 u hS rfl
                simp only [z0, z1, Act.put, z3, z4, z5]
                refine tk 3 (by decide) ?_ hS (by kernel_rfl) (by kernel_rfl) (by kernel_rfl) (by rfl) (fun _ _ _ h => h) ?_ ?_
                rotate_left
                · intro W hW
                  clear hW
                  simp only [z0, z1]
                  go_simp
                  first | done | with_reducible rfl
                simp only [z0, z1, Act.put, z3, z4, z5]
                refine tk 4 (by decide) ?_ hS (by kernel_rfl) (by kernel_rfl) (by kernel_rfl) (by rfl) (fun _ _ _ h => h) ?_ ?_
                rotate_left
                · intro W hW
                  clear hW
                  simp only [z0, z1]
                  go_simp
                  first | done | with_reducible rfl
                simp only [z0, z1, Act.put, z3, z4, z5]
                refine tk 5 (by decide) ?_ hS (by kernel_rfl) (by kernel_rfl) (by kernel_rfl) (by rfl) (fun _ _ _ h => h) ?_ ?_
                rotate_left
                · intro W hW
                  clear hW
                  simp only [z0, z1]
                  go_simp
                  first | done | with_reducible rfl
                simp only [z0, z1, Act.put, z3, z4, z5]
                refine tk 6 (by decide) ?_ hS (by kernel_rfl) (by kernel_rfl) (by kernel_rfl) (by rfl) (fun _ _ _ h => h) ?_ ?_
                rotate_left
                · intro W hW
                  have e0 := hW.1.2.c0; have e1 := hW.1.2.c1
                  clear hW
                  simp only [z0, z1]
                  go_simp
                  first | done | with_reducible rfl
                simp only [z0, z1, Act.put, z3, z4, z5]
                refine tk 7 (by decide) ?_ hS (by kernel_rfl) (by kernel_rfl) (by kernel_rfl) (by rfl) (fun _ _ _ h => h) ?_ ?_
                rotate_left
                · intro W hW
                  clear hW
                  simp only [z0, z1]
                  go_simp
                  first | done | with_reducible rfl
                simp only [z0, z1, Act.put, z3, z4, z5]
                refine tk 8 (by decide) ?_ hS (by kernel_rfl) (by kernel_rfl) (by kernel_rfl) (by rfl) (fun _ _ _ h => h) ?_ ?_
                rotate_left
                · intro W hW
                  clear hW
                  simp only [z0, z1]
                  go_simp
                  first | done | with_reducible rfl
                simp only [z0, z1, Act.put, z3, z4, z5]
                refine tk 9 (by decide) ?_ hS (by kernel_rfl) (by kernel_rfl) (by kernel_rfl) (by rfl) (fun _ _ _ h => h) ?_ ?_
                rotate_left
                · intro W hW
                  clear hW
                  simp only [z0, z1]
                  go_simp
                  first | done | with_reducible rfl
                simp only [z0, z1, Act.put, z3, z4, z5]
                refine tk 10 (by decide) ?_ hS (by kernel_rfl) (by kernel_rfl) (by kernel_rfl) (by rfl) (fun _ _ _ h => h) ?_ ?_
                rotate_left
                · intro W hW
                  clear hW
                  simp only [z0, z1]
                  go_simp
                  first | done | with_reducible rfl
                simp only [z0, z1, Act.put, z3, z4, z5]
                refine tk 11 (by decide) ?_ hS (by kernel_rfl) (by kernel_rfl) (by kernel_rfl) (by rfl) (fun _ _ _ h => h) ?_ ?_
                rotate_left
                · intro W hW
                  have e0 := hW.1.2.c0; have e1 := hW.1.2.c1
                  clear hW
                  simp only [z0, z1]
                  go_simp
                  first | done | with_reducible rfl
                simp only [z0, z1, Act.put, z3, z4, z5]
                refine tk 12 (by decide) ?_ hS (by kernel_rfl) (by kernel_rfl) (by kernel_rfl) (by rfl) (fun _ _ _ h => h) ?_ ?_
                rotate_left
                · intro W hW
                  clear hW
                  simp only [z0, z1]
                  go_simp
                  first | done | with_reducible rfl
                simp only [z0, z1, Act.put, z3, z4, z5]
                refine tk 13 (by decide) ?_ hS (by kernel_rfl) (by kernel_rfl) (by kernel_rfl) (by rfl) (fun _ _ _ h => h) ?_ ?_
                rotate_left
                · intro W hW
                  clear hW
                  simp only [z0, z1]
                  go_simp
                  first | done | with_reducible rfl
                simp only [z0, z1, Act.put, z3, z4, z5]
                refine tk 14 (by decide) ?_ hS (by kernel_rfl) (by kernel_rfl) (by kernel_rfl) (by rfl) (fun _ _ _ h => h) ?_ ?_
                rotate_left
                · intro W hW
                  clear hW
                  simp only [z0, z1]
                  go_simp
                  first | done | with_reducible rfl
                simp only [z0, z1, Act.put, z3, z4, z5]
                refine tk 15 (by decide) ?_ hS (by kernel_rfl) (by kernel_rfl) (by kernel_rfl) (by rfl) (fun _ _ _ h => h) ?_ ?_
                rotate_left
                · intro W hW
                  clear hW
                  simp only [z0, z1]
                  go_simp
                  first | done | with_reducible rfl
                simp only [z0, z1, Act.put, z3, z4, z5]
                refine tk 16 (by decide) ?_ hS (by kernel_rfl) (by kernel_rfl) (by kernel_rfl) (by rfl) (fun _ _ _ h => h) ?_ ?_
                rotate_left
                · intro W hW
                  clear hW
                  simp only [z0, z1]
                  go_simp
                  first | done | with_reducible rfl
                simp only [z0, z1, Act.put, z3, z4, z5]
                refine tk 17 (by decide) ?_ hS (by kernel_rfl) (by kernel_rfl) (by kernel_rfl) (by rfl) (fun _ _ _ h => h) ?_ ?_
                rotate_left
                · intro W hW
                  clear hW
                  simp only [z0, z1]
                  go_simp
                  first | done | with_reducible rfl
                simp only [z0, z1, Act.put, z3, z4, z5]
                refine tk 18 (by decide) ?_ hS (by kernel_rfl) (by kernel_rfl) (by kernel_rfl) (by rfl) (fun _ _ _ h => h) ?_ ?_
                rotate_left
                · intro W hW
                  clear hW
                  simp only [z0, z1]
                  go_simp
                  first | done | with_reducible rfl
                simp only [z0, z1, Act.put, z3, z4, z5]
                refine tk 19 (by decide) ?_ hS (by kernel_rfl) (by kernel_rfl) (by kernel_rfl) (by rfl) (fun _ _ _ h => h) ?_ ?_
                rotate_left
                · intro W hW
                  have e0 := hW.1.2.c0; have e1 := hW.1.2.c1
                  clear hW
                  simp only [z0, z1]
                  go_simp
                  first | done | with_reducible rfl
                simp only [z0, z1, Act.put, z3, z4, z5]
                refine tk 20 (by decide) ?_ hS (by kernel_rfl) (by kernel_rfl) (by kernel_rfl) (by rfl) (fun _ _ _ h => h) ?_ ?_
                rotate_left
                · intro W hW
                  clear hW
                  simp only [z0, z1]
                  go_simp
                  first | done | with_reducible rfl
                simp only [z0, z1, Act.put, z3, z4, z5]
                refine tk 21 (by decide) ?_ hS (by kernel_rfl) (by kernel_rfl) (by kernel_rfl) (by rfl) (fun _ _ _ h => h) ?_ ?_
                rotate_left
                · intro W hW
                  have e24 := hW.1.1.c24
                  clear hW
                  simp only [z0, z1]
                  go_simp
                  first | done | with_reducible rfl
                simp only [z0, z1, Act.put, z3, z4, z5]
                refine tk 22 (by decide) ?_ hS (by kernel_rfl) (by kernel_rfl) (by kernel_rfl) (by rfl) (fun _ _ _ h => h) ?_ ?_
                rotate_left
                · intro W hW
                  clear hW
                  simp only [z0, z1]
                  go_simp
                  first | done | with_reducible rfl
                simp only [z0, z1, Act.put, z3, z4, z5]
                refine tk 23 (by decide) ?_ hS (by kernel_rfl) (by kernel_rfl) (by kernel_rfl) (by rfl) (fun _ _ _ h => h) ?_ ?_
                rotate_left
                · intro W hW
                  clear hW
                  simp only [z0, z1]
                  go_simp
                  first | done | with_reducible rfl
                simp only [z0, z1, Act.put, z3, z4, z5]
                refine tk 24 (by decide) ?_ hS (by kernel_rfl) (by kernel_rfl) (by kernel_rfl) (by rfl) (fun _ _ _ h => h) ?_ ?_
                rotate_left
                · intro W hW
                  clear hW
                  simp only [z0, z1]
                  go_simp
                  first | done | with_reducible rfl
                simp only [z0, z1, Act.put, z3, z4, z5]
                refine tk 25 (by decide) ?_ hS (by kernel_rfl) (by kernel_rfl) (by kernel_rfl) (by rfl) (fun _ _ _ h => h) ?_ ?_
                rotate_left
                · intro W hW
                  clear hW
                  simp only [z0, z1]
                  go_simp
                  first | done | with_reducible rfl
                simp only [z0, z1, Act.put, z3, z4, z5]
                refine tk 26 (by decide) ?_ hS (by kernel_rfl) (by kernel_rfl) (by kernel_rfl) (by rfl) (fun _ _ _ h => h) ?_ ?_
                rotate_left
                · intro W hW
                  have e5 := HPC.out W hW
                  clear hW
                  simp only [z0, z1]
                  go_simp
                  first | done | with_reducible rfl
                simp only [z0, z1, Act.put, z3, z4, z5]
                refine tk 27 (by decide) ?_ hS (by kernel_rfl) (by kernel_rfl) (by kernel_rfl) (by rfl) (fun _ _ _ h => h) ?_ ?_
                rotate_left
                · intro W hW
                  clear hW
                  simp only [z0, z1]
                  go_simp
                  first | done | with_reducible rfl
                simp only [z0, z1, Act.put, z3, z4, z5]
                refine tk 28 (by decide) ?_ hS (by kernel_rfl) (by kernel_rfl) (by kernel_rfl) (by rfl) (fun _ _ _ h => h) ?_ ?_
                rotate_left
                · intro W hW
                  clear hW
                  simp only [z0, z1]
                  go_simp
                  first | done | with_reducible rfl
                simp only [z0, z1, Act.put, z3, z4, z5]
                refine tk 29 (by decide) ?_ hS (by kernel_rfl) (by kernel_rfl) (by kernel_rfl) (by rfl) (fun _ _ _ h => h) ?_ ?_
                rotate_left
                · intro W hW
                  clear hW
                  simp only [z0, z1]
                  go_simp
                  first | done | with_reducible rfl
                simp only [z0, z1, Act.put, z3, z4, z5]
                refine wpAnyH_done (by kernel_rfl) ?_ _
                have cw5 := bl2 hS.2 cwq
                go_wp2_with fail
                go_roundg (gk - 1)
                case measure => omega
                case rel => exact ⟨k + 1, by omega, by go_num, fun j hj => by
                  by_cases e : j = k
                  · subst e; exact HT.out
                  · exact HA.out j (by omega), cw5⟩
      · have HF := Lib.hid (HNO.out (show chgB l.cs k = false by rw [hcb]; simp; omega))
        clear hcb HNO
        have hS0 : SL wq w.heap.size #[.int .i64 (l).id, .int .i64 (l).ac, .int .i64 (l).st, .int .i64 (l).pp, .int .i64 (l).pi, .int .i64 (l).fee, .int .i64 (l).pen, .int .i64 (l).chg, .int .i64 (l).prov, .int .i64 (l).loss, .int .i64 (l).rcv, .int .i64 ((l).tm).me, .int .i64 ((l).tm).pr, .int .i64 ((l).tm).ppm, .int .i64 ((l).tm).stt, .int .i64 ((l).tm).ev, .int .i64 ((l).tm).ct, .int .i64 ((l).tm).ba, .int .i64 ((l).tm).mo, .int .i64 ((l).tm).pen, .int .i64 ((l).tm).fe, .string ((l).tm).cal, .string ((l).tm).cur, .slice da (l).ds.length dk, .slice (some ⟨b, off, none⟩) (l).cs.length ck] 31 wr.heap.size #[.int .i64 d.day, .int .i64 d.amt, .int .i64 (d.old).me, .int .i64 (d.old).pr, .int .i64 (d.old).ppm, .int .i64 (d.old).stt, .int .i64 (d.old).ev, .int .i64 (d.old).ct, .int .i64 (d.old).ba, .int .i64 (d.old).mo, .int .i64 (d.old).pen, .int .i64 (d.old).fe, .string (d.old).cal, .string (d.old).cur] 75 wq.drew := ⟨⟨k0q.drew, hkq.drew⟩, (Below.refl _ _).drew⟩
        refine wp_region_held_drew (S := SL wq w.heap.size #[.int .i64 (l).id, .int .i64 (l).ac, .int .i64 (l).st, .int .i64 (l).pp, .int .i64 (l).pi, .int .i64 (l).fee, .int .i64 (l).pen, .int .i64 (l).chg, .int .i64 (l).prov, .int .i64 (l).loss, .int .i64 (l).rcv, .int .i64 ((l).tm).me, .int .i64 ((l).tm).pr, .int .i64 ((l).tm).ppm, .int .i64 ((l).tm).stt, .int .i64 ((l).tm).ev, .int .i64 ((l).tm).ct, .int .i64 ((l).tm).ba, .int .i64 ((l).tm).mo, .int .i64 ((l).tm).pen, .int .i64 ((l).tm).fe, .string ((l).tm).cal, .string ((l).tm).cur, .slice da (l).ds.length dk, .slice (some ⟨b, off, none⟩) (l).cs.length ck] 31 wr.heap.size #[.int .i64 d.day, .int .i64 d.amt, .int .i64 (d.old).me, .int .i64 (d.old).pr, .int .i64 (d.old).ppm, .int .i64 (d.old).stt, .int .i64 (d.old).ev, .int .i64 (d.old).ct, .int .i64 (d.old).ba, .int .i64 (d.old).mo, .int .i64 (d.old).pen, .int .i64 (d.old).fe, .string (d.old).cal, .string (d.old).cur] 75) (by kernel_rfl) hS0 (fun hS => ?_)
        clear hS0 k0q hkq
        refine tk 0 (by decide) ?_ hS (by kernel_rfl) (by kernel_rfl) (by kernel_rfl) (by rfl) (fun _ _ _ h => h) ?_ ?_
        rotate_left
        · intro W hW
          clear hW
          simp only [z0, z1]
          go_simp
          first | done | with_reducible rfl
        simp only [z0, z1, Act.put, z3, z4, z5]
        refine tk 1 (by decide) ?_ hS (by kernel_rfl) (by kernel_rfl) (by kernel_rfl) (by rfl) (fun _ _ _ h => h) ?_ ?_
        rotate_left
        · intro W hW
          have e0 := hW.1.2.c0; have e1 := hW.1.2.c1
          clear hW
          simp only [z0, z1]
          go_simp
          first | done | with_reducible rfl
        simp only [z0, z1, Act.put, z3, z4, z5]
        refine call_at 2 (by decide) (Pi := (fun v _ => v = .bool false)) (by kernel_rfl) (by rfl) (by simp only [z0, z1]; go_simp; first | done | rfl | exact ⟨rfl, rfl⟩) (call_one SL.mono hS (dv_no _ _ h1)) ?_
        clear hS
        rintro w5 u hS rfl
        simp only [z0, z1, Act.put, z3, z4, z5]
        refine tk 3 (by decide) ?_ hS (by kernel_rfl) (by kernel_rfl) (by kernel_rfl) (by rfl) (fun _ _ _ h => h) ?_ ?_
        rotate_left
        · intro W hW
          clear hW
          simp only [z0, z1]
          go_simp
          first | done | with_reducible rfl
        simp only [z0, z1, Act.put, z3, z4, z5]
        refine tk 4 (by decide) ?_ hS (by kernel_rfl) (by kernel_rfl) (by kernel_rfl) (by rfl) (fun _ _ _ h => h) ?_ ?_
        rotate_left
        · intro W hW
          clear hW
          simp only [z0, z1]
          go_simp
          first | done | with_reducible rfl
        simp only [z0, z1, Act.put, z3, z4, z5]
        refine ts 5 (by decide) hS (by kernel_rfl) (by kernel_rfl) (by kernel_rfl) (by rfl) (fun _ _ _ h => h) ?_
        simp only [z0, z1, Act.put, z3, z4, z5]
        refine ts 6 (by decide) hS (by kernel_rfl) (by kernel_rfl) (by kernel_rfl) (by rfl) (fun _ _ _ h => h) ?_
        simp only [z0, z1, Act.put, z3, z4, z5]
        refine ts 7 (by decide) hS (by kernel_rfl) (by kernel_rfl) (by kernel_rfl) (by rfl) (fun _ _ _ h => h) ?_
        simp only [z0, z1, Act.put, z3, z4, z5]
        refine tk 8 (by decide) ?_ hS (by kernel_rfl) (by kernel_rfl) (by kernel_rfl) (by rfl) (fun _ _ _ h => h) ?_ ?_
        rotate_left
        · intro W hW
          clear hW
          simp only [z0, z1]
          go_simp
          first | done | with_reducible rfl
        simp only [z0, z1, Act.put, z3, z4, z5]
        refine tk 9 (by decide) ?_ hS (by kernel_rfl) (by kernel_rfl) (by kernel_rfl) (by rfl) (fun _ _ _ h => h) ?_ ?_
        rotate_left
        · intro W hW
          clear hW
          simp only [z0, z1]
          go_simp
          first | done | with_reducible rfl
        simp only [z0, z1, Act.put, z3, z4, z5]
        refine ts 10 (by decide) hS (by kernel_rfl) (by kernel_rfl) (by kernel_rfl) (by rfl) (fun _ _ _ h => h) ?_
        simp only [z0, z1, Act.put, z3, z4, z5]
        refine ts 11 (by decide) hS (by kernel_rfl) (by kernel_rfl) (by kernel_rfl) (by rfl) (fun _ _ _ h => h) ?_
        simp only [z0, z1, Act.put, z3, z4, z5]
        refine ts 12 (by decide) hS (by kernel_rfl) (by kernel_rfl) (by kernel_rfl) (by rfl) (fun _ _ _ h => h) ?_
        simp only [z0, z1, Act.put, z3, z4, z5]
        refine tk 13 (by decide) ?_ hS (by kernel_rfl) (by kernel_rfl) (by kernel_rfl) (by rfl) (fun _ _ _ h => h) ?_ ?_
        rotate_left
        · intro W hW
          clear hW
          simp only [z0, z1]
          go_simp
          first | done | with_reducible rfl
        simp only [z0, z1, Act.put, z3, z4, z5]
        refine tk 14 (by decide) ?_ hS (by kernel_rfl) (by kernel_rfl) (by kernel_rfl) (by rfl) (fun _ _ _ h => h) ?_ ?_
        rotate_left
        · intro W hW
          clear hW
          simp only [z0, z1]
          go_simp
          first | done | with_reducible rfl
        simp only [z0, z1, Act.put, z3, z4, z5]
        refine ts 15 (by decide) hS (by kernel_rfl) (by kernel_rfl) (by kernel_rfl) (by rfl) (fun _ _ _ h => h) ?_
        simp only [z0, z1, Act.put, z3, z4, z5]
        refine ts 16 (by decide) hS (by kernel_rfl) (by kernel_rfl) (by kernel_rfl) (by rfl) (fun _ _ _ h => h) ?_
        simp only [z0, z1, Act.put, z3, z4, z5]
        refine ts 17 (by decide) hS (by kernel_rfl) (by kernel_rfl) (by kernel_rfl) (by rfl) (fun _ _ _ h => h) ?_
        simp only [z0, z1, Act.put, z3, z4, z5]
        refine ts 18 (by decide) hS (by kernel_rfl) (by kernel_rfl) (by kernel_rfl) (by rfl) (fun _ _ _ h => h) ?_
        simp only [z0, z1, Act.put, z3, z4, z5]
        refine ts 19 (by decide) hS (by kernel_rfl) (by kernel_rfl) (by kernel_rfl) (by rfl) (fun _ _ _ h => h) ?_
        simp only [z0, z1, Act.put, z3, z4, z5]
        refine ts 20 (by decide) hS (by kernel_rfl) (by kernel_rfl) (by kernel_rfl) (by rfl) (fun _ _ _ h => h) ?_
        simp only [z0, z1, Act.put, z3, z4, z5]
        refine ts 21 (by decide) hS (by kernel_rfl) (by kernel_rfl) (by kernel_rfl) (by rfl) (fun _ _ _ h => h) ?_
        simp only [z0, z1, Act.put, z3, z4, z5]
        refine ts 22 (by decide) hS (by kernel_rfl) (by kernel_rfl) (by kernel_rfl) (by rfl) (fun _ _ _ h => h) ?_
        simp only [z0, z1, Act.put, z3, z4, z5]
        refine ts 23 (by decide) hS (by kernel_rfl) (by kernel_rfl) (by kernel_rfl) (by rfl) (fun _ _ _ h => h) ?_
        simp only [z0, z1, Act.put, z3, z4, z5]
        refine ts 24 (by decide) hS (by kernel_rfl) (by kernel_rfl) (by kernel_rfl) (by rfl) (fun _ _ _ h => h) ?_
        simp only [z0, z1, Act.put, z3, z4, z5]
        refine ts 25 (by decide) hS (by kernel_rfl) (by kernel_rfl) (by kernel_rfl) (by rfl) (fun _ _ _ h => h) ?_
        simp only [z0, z1, Act.put, z3, z4, z5]
        refine ts 26 (by decide) hS (by kernel_rfl) (by kernel_rfl) (by kernel_rfl) (by rfl) (fun _ _ _ h => h) ?_
        simp only [z0, z1, Act.put, z3, z4, z5]
        refine ts 27 (by decide) hS (by kernel_rfl) (by kernel_rfl) (by kernel_rfl) (by rfl) (fun _ _ _ h => h) ?_
        simp only [z0, z1, Act.put, z3, z4, z5]
        refine ts 28 (by decide) hS (by kernel_rfl) (by kernel_rfl) (by kernel_rfl) (by rfl) (fun _ _ _ h => h) ?_
        simp only [z0, z1, Act.put, z3, z4, z5]
        refine tk 29 (by decide) ?_ hS (by kernel_rfl) (by kernel_rfl) (by kernel_rfl) (by rfl) (fun _ _ _ h => h) ?_ ?_
        rotate_left
        · intro W hW
          clear hW
          simp only [z0, z1]
          go_simp
          first | done | with_reducible rfl
        simp only [z0, z1, Act.put, z3, z4, z5]
        refine wpAnyH_done (by kernel_rfl) ?_ _
        go_wp2_with fail
        go_ret
        exact ⟨by rw [HF.out]; try rfl, bl2 hS.2 (bl2 cwq cw1)⟩
    · have HF := Lib.hid (chgsB_yes (cs := l.cs) (fun i hi => HA.out i (by omega)))
      go_wp2_with fail
      go_ret
      exact ⟨by rw [HF.out]; try rfl, bl2 cwr cw1⟩
end Go.Proofs.YtfiplppdmedhkaaGreatDoor.Ln
