/-
  Parts of the proof: Y10, Y11.
-/
import Derived.Test.YtjhpiclnpmdjnaaGreatDoorQ33
namespace Go.Proofs.YtjhpiclnpmdjnaaGreatDoor.Bm
open Go Go.RowKit
open Go.Proofs.YtjhpiclnpmdjnaaGreatDoor
open Go.Proofs.YtjhpiclnpmdjnaaGreatDoor.Kl (byt byt_get)
open Go.Proofs.YtjhpiclnpmdjnaaGreatDoor.Ln (SB tk ts z0 z1 z3 z4 z5 take_at call_at flat flat_len flat_get flat_mem RowIn OwnR Idx bl2 results2_cell Blk_setRow_same Blk_setRow_ne Below_setRow)
set_option linter.unusedSimpArgs false
set_option linter.unusedVariables false
set_option maxRecDepth 100000
set_option maxHeartbeats 16000000 in
theorem two11_any (op a b : Int) (w : World) : Calls Tryz.prog 234 #[.int .i64 op, .int .i64 a, .int .i64 b] w fun e w' => IsNB e ∧ w = w' := by
  go_enter Tryz.func234, Tryz.ntmps234
  go_wp2_with fail
  all_goals first
    | (go_ret2; exact ⟨IsNB.mk _ _, rfl⟩)
    | skip
  all_goals first
    | (refine (scalar_any _ _).mono ?_
       rintro e w' ⟨⟨q, rfl⟩, rfl⟩
       go_wp2_with fail)
    | (refine (prod11_any _ _ _).mono ?_
       rintro e w' ⟨⟨n, q, rfl⟩, rfl⟩
       go_wp2_with fail)
  all_goals (go_ret2; exact ⟨IsNB.mk _ _, rfl⟩)
theorem call_isnb {P : Program} {S : World → Prop} {f : FuncId} {args : Array Value} {W : World} (hS : S W) (h : Calls P f args W fun e w' => IsNB e ∧ W = w') : Calls P f args W fun e w' => ∃ v, e = .returned v ∧ (∃ (n : Int) (q : Bool), v = .tuple #[.int .i64 n, .bool q]) ∧ S w' :=
  h.mono fun _ _ ⟨⟨n, q, he⟩, hb⟩ => ⟨_, he, ⟨n, q, rfl⟩, hb ▸ hS⟩
set_option maxHeartbeats 16000000 in
theorem result11_any (op : Int) (a : Option Addr) (cap : Nat) (l : List Int) (w : World) (hl : l.length ≤ 3) (h : RowIn Sr.ienc w a l) :
    Calls Tryz.prog 213 #[.int .i64 op, .slice a l.length cap] w fun e w' => IsNB e ∧ Below w.heap.size w w' := by
  match l, hl, h with
  | [], _, _ =>
    go_enter Tryz.func213, Tryz.ntmps213
    go_wp2_with fail
    all_goals (go_ret2; exact ⟨IsNB.mk _ _, Below.refl _ _⟩)
  | [x], _, h =>
    obtain ⟨b, off, rfl, hc⟩ := rowat Sr.ienc_len h (by simp)
    have m0 : w.cell? ⟨b, off, none⟩ = some (.int .i64 x) := by simpa using hc 0 (by simp) 0 _ rfl
    clear hc h
    go_enter Tryz.func213, Tryz.ntmps213
    by_cases h9 : op = 9
    · have g9 : (op == 9) = true := by rw [h9]; rfl
      clear h9
      go_upto_region 2 with fail
      have hS0 : SB w w.drew := (Below.refl _ _).drew
      refine wp_region_held_drew (S := SB w) (by kernel_rfl) hS0 (fun hS => ?_)
      clear hS0
      refine tk 0 (by decide) ?_ hS (by kernel_rfl) (by kernel_rfl) (by kernel_rfl) (by rfl) (fun _ _ _ h => h) ?_ ?_
      rotate_left
      · intro W hW
        have q0 := cell_later hW m0; (try have q1 := cell_later hW m1)
        clear hW
        simp only [z0, z1]
        go_simp
        first | done | with_reducible rfl
      simp only [z0, z1, Act.put, z3, z4, z5]
      refine tk 1 (by decide) ?_ hS (by kernel_rfl) (by kernel_rfl) (by kernel_rfl) (by rfl) (fun _ _ _ h => h) ?_ ?_
      rotate_left
      · intro W hW
        have q0 := cell_later hW m0; (try have q1 := cell_later hW m1)
        clear hW
        simp only [z0, z1]
        go_simp
        first | done | with_reducible rfl
      simp only [z0, z1, Act.put, z3, z4, z5]
      refine tk 2 (by decide) ?_ hS (by kernel_rfl) (by kernel_rfl) (by kernel_rfl) (by rfl) (fun _ _ _ h => h) ?_ ?_
      rotate_left
      · intro W hW
        have q0 := cell_later hW m0; (try have q1 := cell_later hW m1)
        clear hW
        simp only [z0, z1]
        go_simp
        first | done | with_reducible rfl
      simp only [z0, z1, Act.put, z3, z4, z5]
      refine tk 3 (by decide) ?_ hS (by kernel_rfl) (by kernel_rfl) (by kernel_rfl) (by rfl) (fun _ _ _ h => h) ?_ ?_
      rotate_left
      · intro W hW
        have q0 := cell_later hW m0; (try have q1 := cell_later hW m1)
        clear hW
        simp only [z0, z1]
        go_simp
        first | done | with_reducible rfl
      simp only [z0, z1, Act.put, z3, z4, z5]
      refine tk 4 (by decide) ?_ hS (by kernel_rfl) (by kernel_rfl) (by kernel_rfl) (by rfl) (fun _ _ _ h => h) ?_ ?_
      rotate_left
      · intro W hW
        have q0 := cell_later hW m0; (try have q1 := cell_later hW m1)
        clear hW
        simp only [z0, z1]
        go_simp
        first | done | with_reducible rfl
      simp only [z0, z1, Act.put, z3, z4, z5]
      refine tk 5 (by decide) ?_ hS (by kernel_rfl) (by kernel_rfl) (by kernel_rfl) (by rfl) (fun _ _ _ h => h) ?_ ?_
      rotate_left
      · intro W hW
        have q0 := cell_later hW m0; (try have q1 := cell_later hW m1)
        clear hW
        simp only [z0, z1]
        go_simp
        first | done | with_reducible rfl
      simp only [z0, z1, Act.put, z3, z4, z5]
      refine call_at 6 (by decide) (Pi := fun v _ => ∃ q : Bool, v = .bool q) (by kernel_rfl) (by rfl) (by simp only [z0, z1]; go_simp; first | done | rfl | exact ⟨rfl, rfl⟩ | exact ⟨rfl, rfl, rfl⟩ | exact ⟨rfl, rfl, rfl, rfl⟩) (call_isb hS (scalar_any _ _)) ?_
      clear hS
      rintro w9 u hS ⟨q, rfl⟩
      simp only [z0, z1, Act.put, z3, z4, z5]
      refine tk 7 (by decide) ?_ hS (by kernel_rfl) (by kernel_rfl) (by kernel_rfl) (by rfl) (fun _ _ _ h => h) ?_ ?_
      rotate_left
      · intro W hW
        have q0 := cell_later hW m0; (try have q1 := cell_later hW m1)
        clear hW
        simp only [z0, z1]
        go_simp
        first | done | with_reducible rfl
      simp only [z0, z1, Act.put, z3, z4, z5]
      refine tk 8 (by decide) ?_ hS (by kernel_rfl) (by kernel_rfl) (by kernel_rfl) (by rfl) (fun _ _ _ h => h) ?_ ?_
      rotate_left
      · intro W hW
        have q0 := cell_later hW m0; (try have q1 := cell_later hW m1)
        clear hW
        simp only [z0, z1]
        go_simp
        first | done | with_reducible rfl
      simp only [z0, z1, Act.put, z3, z4, z5]
      refine wpAnyH_done (by kernel_rfl) ?_ _
      have c9 := bl2 hS (Below.refl _ _)
      clear hS
      go_wp2_with fail
      (go_ret2; exact ⟨IsNB.mk _ _, c9⟩)
    · have g9 : (op == 9) = false := beq_eq_false_iff_ne.2 h9
      clear h9
      by_cases h9 : op = 16
      · have g16 : (op == 16) = true := by rw [h9]; rfl
        clear h9
        go_upto_region 4 with fail
        refine Reg.region_quiet (by kernel_rfl) (by kernel_rfl) ?_
        iterate 6 (first | go_big_quiet_skip | (go_big_quiet_want; (first | (go_big_quiet_op; go_big_quiet_on) | (apply Reg.quiet_run; (intro W hW; (have q0 := hW.cell m0; (try have q1 := hW.cell m1); (try have q2 := hW.cell m2)); go_simp; (first | done | rfl | exact ⟨rfl, rfl⟩ )); (simp only [Act.put, List.setIfInBounds_toArray, List.set_cons_zero, List.set_cons_succ]; go_big_quiet_on)) | (apply Reg.quiet_call; (intro W hW; go_simp; (first | done | rfl | exact ⟨rfl, rfl⟩)); (intro W hW; (first | fail)); (simp only [Act.put, List.setIfInBounds_toArray, List.set_cons_zero, List.set_cons_succ]; go_big_quiet_on)))))
        refine wpQuiet_nil ?_
        intro w8 hW
        have c8 := bl2 hW (Below.refl _ _)
        go_wp2_with fail
        (go_ret2; exact ⟨IsNB.mk _ _, c8⟩)
      · have g16 : (op == 16) = false := beq_eq_false_iff_ne.2 h9
        clear h9
        go_wp2_with fail
        all_goals (go_ret2; exact ⟨IsNB.mk _ _, Below.refl _ _⟩)
  | [x, y], _, h =>
    obtain ⟨b, off, rfl, hc⟩ := rowat Sr.ienc_len h (by simp)
    have m0 : w.cell? ⟨b, off, none⟩ = some (.int .i64 x) := by simpa using hc 0 (by simp) 0 _ rfl
    have m1 : w.cell? ⟨b, off + 1, none⟩ = some (.int .i64 y) := by simpa using hc 1 (by simp) 0 _ rfl
    clear hc h
    go_enter Tryz.func213, Tryz.ntmps213
    go_upto_region 8 with fail
    all_goals
      have hS0 : SB w w.drew := (Below.refl _ _).drew
      refine wp_region_held_drew (S := SB w) (by kernel_rfl) hS0 (fun hS => ?_)
      clear hS0
      refine tk 0 (by decide) ?_ hS (by kernel_rfl) (by kernel_rfl) (by kernel_rfl) (by rfl) (fun _ _ _ h => h) ?_ ?_
      rotate_left
      · intro W hW
        have q0 := cell_later hW m0; (try have q1 := cell_later hW m1)
        clear hW
        simp only [z0, z1]
        go_simp
        first | done | with_reducible rfl
      simp only [z0, z1, Act.put, z3, z4, z5]
      refine tk 1 (by decide) ?_ hS (by kernel_rfl) (by kernel_rfl) (by kernel_rfl) (by rfl) (fun _ _ _ h => h) ?_ ?_
      rotate_left
      · intro W hW
        have q0 := cell_later hW m0; (try have q1 := cell_later hW m1)
        clear hW
        simp only [z0, z1]
        go_simp
        first | done | with_reducible rfl
      simp only [z0, z1, Act.put, z3, z4, z5]
      refine tk 2 (by decide) ?_ hS (by kernel_rfl) (by kernel_rfl) (by kernel_rfl) (by rfl) (fun _ _ _ h => h) ?_ ?_
      rotate_left
      · intro W hW
        have q0 := cell_later hW m0; (try have q1 := cell_later hW m1)
        clear hW
        simp only [z0, z1]
        go_simp
        first | done | with_reducible rfl
      simp only [z0, z1, Act.put, z3, z4, z5]
      refine tk 3 (by decide) ?_ hS (by kernel_rfl) (by kernel_rfl) (by kernel_rfl) (by rfl) (fun _ _ _ h => h) ?_ ?_
      rotate_left
      · intro W hW
        have q0 := cell_later hW m0; (try have q1 := cell_later hW m1)
        clear hW
        simp only [z0, z1]
        go_simp
        first | done | with_reducible rfl
      simp only [z0, z1, Act.put, z3, z4, z5]
      refine tk 4 (by decide) ?_ hS (by kernel_rfl) (by kernel_rfl) (by kernel_rfl) (by rfl) (fun _ _ _ h => h) ?_ ?_
      rotate_left
      · intro W hW
        have q0 := cell_later hW m0; (try have q1 := cell_later hW m1)
        clear hW
        simp only [z0, z1]
        go_simp
        first | done | with_reducible rfl
      simp only [z0, z1, Act.put, z3, z4, z5]
      refine tk 5 (by decide) ?_ hS (by kernel_rfl) (by kernel_rfl) (by kernel_rfl) (by rfl) (fun _ _ _ h => h) ?_ ?_
      rotate_left
      · intro W hW
        have q0 := cell_later hW m0; (try have q1 := cell_later hW m1)
        clear hW
        simp only [z0, z1]
        go_simp
        first | done | with_reducible rfl
      simp only [z0, z1, Act.put, z3, z4, z5]
      refine tk 6 (by decide) ?_ hS (by kernel_rfl) (by kernel_rfl) (by kernel_rfl) (by rfl) (fun _ _ _ h => h) ?_ ?_
      rotate_left
      · intro W hW
        have q0 := cell_later hW m0; (try have q1 := cell_later hW m1)
        clear hW
        simp only [z0, z1]
        go_simp
        first | done | with_reducible rfl
      simp only [z0, z1, Act.put, z3, z4, z5]
      refine call_at 7 (by decide) (Pi := fun v _ => ∃ (n : Int) (q : Bool), v = .tuple #[.int .i64 n, .bool q]) (by kernel_rfl) (by rfl) (by simp only [z0, z1]; go_simp; first | done | rfl | exact ⟨rfl, rfl⟩ | exact ⟨rfl, rfl, rfl⟩ | exact ⟨rfl, rfl, rfl, rfl⟩) (call_isnb hS (two11_any _ _ _ _)) ?_
      clear hS
      rintro w9 u hS ⟨n, q, rfl⟩
      simp only [z0, z1, Act.put, z3, z4, z5]
      refine tk 8 (by decide) ?_ hS (by kernel_rfl) (by kernel_rfl) (by kernel_rfl) (by rfl) (fun _ _ _ h => h) ?_ ?_
      rotate_left
      · intro W hW
        have q0 := cell_later hW m0; (try have q1 := cell_later hW m1)
        clear hW
        simp only [z0, z1]
        go_simp
        first | done | with_reducible rfl
      simp only [z0, z1, Act.put, z3, z4, z5]
      refine tk 9 (by decide) ?_ hS (by kernel_rfl) (by kernel_rfl) (by kernel_rfl) (by rfl) (fun _ _ _ h => h) ?_ ?_
      rotate_left
      · intro W hW
        have q0 := cell_later hW m0; (try have q1 := cell_later hW m1)
        clear hW
        simp only [z0, z1]
        go_simp
        first | done | with_reducible rfl
      simp only [z0, z1, Act.put, z3, z4, z5]
      refine tk 10 (by decide) ?_ hS (by kernel_rfl) (by kernel_rfl) (by kernel_rfl) (by rfl) (fun _ _ _ h => h) ?_ ?_
      rotate_left
      · intro W hW
        have q0 := cell_later hW m0; (try have q1 := cell_later hW m1)
        clear hW
        simp only [z0, z1]
        go_simp
        first | done | with_reducible rfl
      simp only [z0, z1, Act.put, z3, z4, z5]
      refine tk 11 (by decide) ?_ hS (by kernel_rfl) (by kernel_rfl) (by kernel_rfl) (by rfl) (fun _ _ _ h => h) ?_ ?_
      rotate_left
      · intro W hW
        have q0 := cell_later hW m0; (try have q1 := cell_later hW m1)
        clear hW
        simp only [z0, z1]
        go_simp
        first | done | with_reducible rfl
      simp only [z0, z1, Act.put, z3, z4, z5]
      refine wpAnyH_done (by kernel_rfl) ?_ _
      have c9 := bl2 hS (Below.refl _ _)
      clear hS
      go_wp2_with fail
      (go_ret2; exact ⟨IsNB.mk _ _, c9⟩)
  | [x, y, z], _, h =>
    obtain ⟨b, off, rfl, hc⟩ := rowat Sr.ienc_len h (by simp)
    have m0 : w.cell? ⟨b, off, none⟩ = some (.int .i64 x) := by simpa using hc 0 (by simp) 0 _ rfl
    have m1 : w.cell? ⟨b, off + 1, none⟩ = some (.int .i64 y) := by simpa using hc 1 (by simp) 0 _ rfl
    have m2 : w.cell? ⟨b, off + 2, none⟩ = some (.int .i64 z) := by simpa using hc 2 (by simp) 0 _ rfl
    clear hc h
    go_enter Tryz.func213, Tryz.ntmps213
    by_cases h9 : op = 19
    · have g9 : (op == 19) = true := by rw [h9]; rfl
      have g8 : (op == 9) = false := by rw [h9]; rfl
      have g7 : (op == 16) = false := by rw [h9]; rfl
      clear h9
      go_upto_region 6 with fail
      cases b5 : (x == 5)
      all_goals
        refine Reg.region_quiet (by kernel_rfl) (by kernel_rfl) ?_
        iterate 18 (first | go_big_quiet_skip | (go_big_quiet_want; (first | (go_big_quiet_op; go_big_quiet_on) | (apply Reg.quiet_run; (intro W hW; (have q0 := hW.cell m0; (try have q1 := hW.cell m1); (try have q2 := hW.cell m2)); go_simp; (first | done | rfl | exact ⟨rfl, rfl⟩ )); (simp only [Act.put, List.setIfInBounds_toArray, List.set_cons_zero, List.set_cons_succ]; go_big_quiet_on)) | (apply Reg.quiet_call; (intro W hW; go_simp; (first | done | rfl | exact ⟨rfl, rfl⟩)); (intro W hW; (first | fail)); (simp only [Act.put, List.setIfInBounds_toArray, List.set_cons_zero, List.set_cons_succ]; go_big_quiet_on)))))
        refine wpQuiet_nil ?_
        intro w8 hW
        have c8 := bl2 hW (Below.refl _ _)
        go_wp2_with fail
        (go_ret2; exact ⟨IsNB.mk _ _, c8⟩)
    · have g9 : (op == 19) = false := beq_eq_false_iff_ne.2 h9
      clear h9
      go_wp2_with fail
      all_goals (go_ret2; exact ⟨IsNB.mk _ _, Below.refl _ _⟩)
  | _ :: _ :: _ :: _ :: _, hl, _ => exact absurd hl (by simp)
set_option maxHeartbeats 16000000 in
theorem Result11_any (op : Int) (a : Option Addr) (cap : Nat) (l : List Int) (w : World) (hl : l.length ≤ 1000000) (h : RowIn Sr.ienc w a l) :
    Calls Tryz.prog 192 #[.int .i64 op, .slice a l.length cap] w fun e w' => IsNB e ∧ Below w.heap.size w w' := by
  have H := Lib.hid h
  by_cases h3 : 3 < l.length
  · clear h
    go_enter Tryz.func192, Tryz.ntmps192
    go_wp2_with fail
    (go_ret2; exact ⟨IsNB.mk _ _, Below.refl _ _⟩)
  · have HQ := Lib.hid (result11_any op a cap l w (by omega) h)
    clear h
    go_enter Tryz.func192, Tryz.ntmps192
    go_wp2_with fail
    go_loopg [6] l.length (CntS l.length w)
    case atStart => exact ⟨0, by omega, rfl, rfl⟩
    case round =>
      obtain ⟨i, hi, rfl, rfl⟩ := hrel
      by_cases hlt : i < l.length
      · obtain ⟨b, off, rfl, hc⟩ := rowat Sr.ienc_len H.out (by omega)
        have m0 : w.cell? ⟨b, off + i, none⟩ = some (.int .i64 l[i]!) := by
          rw [show off + i = off + i * 1 + 0 by omega]
          exact hc i hlt 0 _ rfl
        clear hc
        obtain ⟨d, hd⟩ : ∃ d, d = l[i]! := ⟨_, rfl⟩
        rw [← hd] at m0
        clear hd
        go_wp2_with fail
        refine (good11_any _ _).mono ?_
        rintro e w' ⟨⟨q, rfl⟩, rfl⟩
        cases q
        · go_wp2_with fail
          (go_ret2; exact ⟨IsNB.mk _ _, Below.refl _ _⟩)
        · go_wp2_with fail
          go_roundg (gk - 1)
          case measure => omega
          case rel => exact ⟨i + 1, by omega, by go_num, rfl⟩
      · go_wp2_with fail
        refine HQ.out.mono ?_
        rintro e w2 ⟨⟨n, q, rfl⟩, hb⟩
        cases q
        all_goals go_wp2_with fail
        all_goals (go_ret2; exact ⟨IsNB.mk _ _, hb⟩)
structure Vr where
  (nm : ByteArray) (ty : Int)
instance : Inhabited Vr := ⟨⟨.empty, 0⟩⟩
def vrenc (x : Vr) : List Value := [.string x.nm, .int .i64 x.ty]
theorem vrenc_len (x : Vr) : (vrenc x).length = 2 := rfl
theorem row_blk {α : Type} {enc : α → List Value} {W : World} {g : Nat} {cs : Array Value} {t : TypeId} {xs : List α} (h : Bk.Blk W g cs t) (he : cs.toList = flat enc xs) : RowIn enc W (some ⟨g, 0, none⟩) xs := fun _ => ⟨g, 0, rfl, fun j u hj => by
  rw [Nat.zero_add, h.cell]
  rw [← he] at hj
  simpa using hj⟩
theorem rng_blk {W : World} {g : Nat} {cs : Array Value} {t : TypeId} (h : Bk.Blk W g cs t) (o : Nat) (l : List Value) (he : ∀ j v, l[j]? = some v → cs[o + j]? = some v) : W.rangeAt g o l := fun j v hv => by
  rw [h.cell]
  exact he j v hv
def IsVr (e : Ending) (w' : World) : Prop := ∃ (g : Nat) (vs : List Vr), e = .returned (.slice (some ⟨g, 0, none⟩) vs.length 7) ∧ vs.length = 7 ∧ RowIn vrenc w' (some ⟨g, 0, none⟩) vs
set_option maxHeartbeats 8000000 in
theorem vars15_any (w : World) : Calls Tryz.prog 107 #[] w fun e w' => IsVr e w' ∧ Below w.heap.size w w' := by
  go_enter Tryz.func107, Tryz.ntmps107
  go_wp2_with fail
  go_ret
  exact ⟨⟨_, [⟨⟨#[98, 97, 108, 97, 110, 99, 101]⟩, 2⟩, ⟨⟨#[108, 111, 119, 101, 115, 116]⟩, 2⟩, ⟨⟨#[118, 111, 108, 117, 109, 101]⟩, 2⟩, ⟨⟨#[97, 109, 111, 117, 110, 116]⟩, 2⟩, ⟨⟨#[99, 111, 117, 110, 116]⟩, 1⟩, ⟨⟨#[97, 103, 101]⟩, 1⟩, ⟨⟨#[100, 97, 121]⟩, 4⟩], rfl, rfl, row_blk Bk.Blk.nw10 (by rfl)⟩, Bk.be⟩
def VfR (w : World) (e : Xp) (n : Nat) (g : Nat) (s : Value) (W : World) : Prop := ∃ k : Nat, k + g = n ∧ s = .int .i64 k ∧ Bk.Blk W w.heap.size #[.int .i64 (e).op, .int .i64 (e).n, .string (e).s, .slice (e).a (e).l.length (e).k] 139 ∧ Below w.heap.size w W
def OfR (w : World) (e : Xp) (g : Nat) (s7 s8 : Value) (W : World) : Prop := ∃ (k : Nat) (l : List Int), k + g = e.l.length ∧ s8 = .int .i64 k ∧ Sr.IV W (w.heap.size + 1) s7 l ∧ l.length = k ∧ Bk.Blk W w.heap.size #[.int .i64 (e).op, .int .i64 (e).n, .string (e).s, .slice (e).a (e).l.length (e).k] 139 ∧ Below w.heap.size w W
set_option maxHeartbeats 64000000 in
theorem of11_any (e : Xp) : e.nd ≤ 1000 → ∀ (va : Option Addr) (vc : Nat) (vs : List Vr) (w : World), XpIn w e → vs.length ≤ 100 → RowIn vrenc w va vs → Calls Tryz.prog 169 #[.agg #[.int .i64 (e).op, .int .i64 (e).n, .string (e).s, .slice (e).a (e).l.length (e).k], .slice va vs.length vc] w fun r w' => Is2 r ∧ Below w.heap.size w w' := by
  induction e using Xp.ind with
  | h e ih =>
  intro hnd va vc vs w h hvn hvr
  have hln := h.ln
  have hml : e.l.length ≤ 9223372036854775807 := by unfold maxLen at hln; omega
  clear hln
  have HIH := Lib.hid (fun (k : Nat) (hk : k < e.l.length) (W : World) (hW : Below w.heap.size w W) => ih e.l[k]! (by rw [getElem!_pos e.l k hk]; exact List.getElem_mem hk) (by have := nd_lt (e := e) (x := e.l[k]!) (by rw [getElem!_pos e.l k hk]; exact List.getElem_mem hk); omega) va vc vs W ((h.at hk).later hW) hvn (hvr.later hW))
  have HR := Lib.hid h.r
  have HND := Lib.hid hnd
  have HVR := Lib.hid hvr
  clear h ih hnd hvr
  have cw : Below w.heap.size w (w.alloc (.cells #[.int .i64 (e).op, .int .i64 (e).n, .string (e).s, .slice (e).a (e).l.length (e).k] 139)) := Bk.be
  have ke : Bk.Blk (w.alloc (.cells #[.int .i64 (e).op, .int .i64 (e).n, .string (e).s, .slice (e).a (e).l.length (e).k] 139)) w.heap.size _ 139 := Bk.Blk.nw10
  go_enter Tryz.func169, Tryz.ntmps169
  go_upto_region 1 with fail
  generalize (w.alloc (.cells _ 139)) = w1 at *
  have e0 := ke.c0
  by_cases h4 : e.op = 1
  · have g1 : (e.op == 1) = true := by rw [h4]; rfl
    clear h4
    go_wp2_with fail
    (go_ret2; exact ⟨⟨_, _, rfl⟩, cw⟩)
  have g1 : (e.op == 1) = false := beq_eq_false_iff_ne.2 h4
  clear h4
  by_cases h4 : e.op = 2
  · have g2 : (e.op == 2) = true := by rw [h4]; rfl
    clear h4
    go_wp2_with fail
    (go_ret2; exact ⟨⟨_, _, rfl⟩, cw⟩)
  have g2 : (e.op == 2) = false := beq_eq_false_iff_ne.2 h4
  clear h4
  by_cases h4 : e.op = 3
  · have g3 : (e.op == 3) = true := by rw [h4]; rfl
    clear h4
    go_wp2_with fail
    (go_ret2; exact ⟨⟨_, _, rfl⟩, cw⟩)
  have g3 : (e.op == 3) = false := beq_eq_false_iff_ne.2 h4
  clear h4
  by_cases h4 : e.op = 4
  · have g4 : (e.op == 4) = true := by rw [h4]; rfl
    clear h4
    clear HIH HND
    go_wp2_with fail
    clear e0
    go_loopg [6] vs.length (VfR w e vs.length)
    case atStart => exact ⟨0, by omega, rfl, ke, cw⟩
    case round =>
      clear ke cw
      obtain ⟨k, hk, rfl, ke, hbr⟩ := hrel
      by_cases hlt : k < vs.length
      · obtain ⟨b, off, rfl, hc⟩ := rowat vrenc_len HVR.out (by omega)
        have hm1 := range_later hbr (hc k hlt)
        clear hc
        obtain ⟨d, hd⟩ : ∃ d, d = vs[k]! := ⟨_, rfl⟩
        rw [← hd] at hm1
        clear hd
        have m0 : wr.cell? ⟨b, off + k * 2, none⟩ = some (.string d.nm) := hm1 0 _ rfl
        have m1 : wr.cell? ⟨b, off + k * 2 + 1, none⟩ = some (.int .i64 d.ty) := hm1 1 _ rfl
        clear hm1
        go_upto_region 12 with fail
        cases b1 : (d.nm.toList == e.s.toList)
        · have hS0 : SB wr wr.drew := (Below.refl _ _).drew
          refine wp_region_held_drew (S := SB wr) (by kernel_rfl) hS0 (fun hS => ?_)
          clear hS0
          refine tk 0 (by decide) ?_ hS (by kernel_rfl) (by kernel_rfl) (by kernel_rfl) (by rfl) (fun _ _ _ h => h) ?_ ?_
          rotate_left
          · intro W hW
            have q0 := cell_later hW m0; have q1 := cell_later hW m1; have q2 := (ke.later hW).c2
            clear hW
            simp only [z0, z1]
            go_simp
            first | done | with_reducible rfl
          simp only [z0, z1, Act.put, z3, z4, z5]
          refine tk 1 (by decide) ?_ hS (by kernel_rfl) (by kernel_rfl) (by kernel_rfl) (by rfl) (fun _ _ _ h => h) ?_ ?_
          rotate_left
          · intro W hW
            have q0 := cell_later hW m0; have q1 := cell_later hW m1; have q2 := (ke.later hW).c2
            clear hW
            simp only [z0, z1]
            go_simp
            first | done | with_reducible rfl
          simp only [z0, z1, Act.put, z3, z4, z5]
          refine tk 2 (by decide) ?_ hS (by kernel_rfl) (by kernel_rfl) (by kernel_rfl) (by rfl) (fun _ _ _ h => h) ?_ ?_
          rotate_left
          · intro W hW
            have q0 := cell_later hW m0; have q1 := cell_later hW m1; have q2 := (ke.later hW).c2
            clear hW
            simp only [z0, z1]
            go_simp
            first | done | with_reducible rfl
          simp only [z0, z1, Act.put, z3, z4, z5]
          refine tk 3 (by decide) ?_ hS (by kernel_rfl) (by kernel_rfl) (by kernel_rfl) (by rfl) (fun _ _ _ h => h) ?_ ?_
          rotate_left
          · intro W hW
            have q0 := cell_later hW m0; have q1 := cell_later hW m1; have q2 := (ke.later hW).c2
            clear hW
            simp only [z0, z1]
            go_simp
            first | done | with_reducible rfl
          simp only [z0, z1, Act.put, z3, z4, z5]
          refine tk 4 (by decide) ?_ hS (by kernel_rfl) (by kernel_rfl) (by kernel_rfl) (by rfl) (fun _ _ _ h => h) ?_ ?_
          rotate_left
          · intro W hW
            have q0 := cell_later hW m0; have q1 := cell_later hW m1; have q2 := (ke.later hW).c2
            clear hW
            simp only [z0, z1]
            go_simp
            first | done | with_reducible rfl
          simp only [z0, z1, Act.put, z3, z4, z5]
          refine tk 5 (by decide) ?_ hS (by kernel_rfl) (by kernel_rfl) (by kernel_rfl) (by rfl) (fun _ _ _ h => h) ?_ ?_
          rotate_left
          · intro W hW
            have q0 := cell_later hW m0; have q1 := cell_later hW m1; have q2 := (ke.later hW).c2
            clear hW
            simp only [z0, z1]
            go_simp
            first | done | with_reducible rfl
          simp only [z0, z1, Act.put, z3, z4, z5]
          refine tk 6 (by decide) ?_ hS (by kernel_rfl) (by kernel_rfl) (by kernel_rfl) (by rfl) (fun _ _ _ h => h) ?_ ?_
          rotate_left
          · intro W hW
            have q0 := cell_later hW m0; have q1 := cell_later hW m1; have q2 := (ke.later hW).c2
            clear hW
            simp only [z0, z1]
            go_simp
            first | done | with_reducible rfl
          simp only [z0, z1, Act.put, z3, z4, z5]
          refine tk 7 (by decide) ?_ hS (by kernel_rfl) (by kernel_rfl) (by kernel_rfl) (by rfl) (fun _ _ _ h => h) ?_ ?_
          rotate_left
          · intro W hW
            have q0 := cell_later hW m0; have q1 := cell_later hW m1; have q2 := (ke.later hW).c2
            clear hW
            simp only [z0, z1]
            go_simp
            first | done | with_reducible rfl
          simp only [z0, z1, Act.put, z3, z4, z5]
          refine tk 8 (by decide) ?_ hS (by kernel_rfl) (by kernel_rfl) (by kernel_rfl) (by rfl) (fun _ _ _ h => h) ?_ ?_
          rotate_left
          · intro W hW
            have q0 := cell_later hW m0; have q1 := cell_later hW m1; have q2 := (ke.later hW).c2
            clear hW
            simp only [z0, z1]
            go_simp
            first | done | with_reducible rfl
          simp only [z0, z1, Act.put, z3, z4, z5]
          refine ts 9 (by decide) hS (by kernel_rfl) (by kernel_rfl) (by kernel_rfl) (by rfl) (fun _ _ _ h => h) ?_
          simp only [z0, z1, Act.put, z3, z4, z5]
          refine ts 10 (by decide) hS (by kernel_rfl) (by kernel_rfl) (by kernel_rfl) (by rfl) (fun _ _ _ h => h) ?_
          simp only [z0, z1, Act.put, z3, z4, z5]
          refine ts 11 (by decide) hS (by kernel_rfl) (by kernel_rfl) (by kernel_rfl) (by rfl) (fun _ _ _ h => h) ?_
          simp only [z0, z1, Act.put, z3, z4, z5]
          refine ts 12 (by decide) hS (by kernel_rfl) (by kernel_rfl) (by kernel_rfl) (by rfl) (fun _ _ _ h => h) ?_
          simp only [z0, z1, Act.put, z3, z4, z5]
          refine ts 13 (by decide) hS (by kernel_rfl) (by kernel_rfl) (by kernel_rfl) (by rfl) (fun _ _ _ h => h) ?_
          simp only [z0, z1, Act.put, z3, z4, z5]
          refine ts 14 (by decide) hS (by kernel_rfl) (by kernel_rfl) (by kernel_rfl) (by rfl) (fun _ _ _ h => h) ?_
          simp only [z0, z1, Act.put, z3, z4, z5]
          refine tk 15 (by decide) ?_ hS (by kernel_rfl) (by kernel_rfl) (by kernel_rfl) (by rfl) (fun _ _ _ h => h) ?_ ?_
          rotate_left
          · intro W hW
            have q0 := cell_later hW m0; have q1 := cell_later hW m1; have q2 := (ke.later hW).c2
            clear hW
            simp only [z0, z1]
            go_simp
            first | done | with_reducible rfl
          simp only [z0, z1, Act.put, z3, z4, z5]
          refine wpAnyH_done (by kernel_rfl) ?_ _
          have c9 := bl2 hS hbr
          replace ke := ke.later hS
          replace m0 := cell_later hS m0
          replace m1 := cell_later hS m1
          clear hS hbr
          go_upto_region 14 with fail
          refine Reg.region_quiet (by kernel_rfl) (by kernel_rfl) ?_
          iterate 8 (first | go_big_quiet_skip | (go_big_quiet_want; (first | (go_big_quiet_op; go_big_quiet_on) | (apply Reg.quiet_run; (intro W hW; (have q0 := hW.cell m0; have q2 := (ke.later hW).c2); go_simp; (first | done | rfl | exact ⟨rfl, rfl⟩ )); (simp only [Act.put, List.setIfInBounds_toArray, List.set_cons_zero, List.set_cons_succ]; go_big_quiet_on)) | (apply Reg.quiet_call; (intro W hW; go_simp; (first | done | rfl | exact ⟨rfl, rfl⟩)); (intro W hW; (first | fail)); (simp only [Act.put, List.setIfInBounds_toArray, List.set_cons_zero, List.set_cons_succ]; go_big_quiet_on)))))
          refine wpQuiet_nil ?_
          intro w8 hW
          have c8 := bl2 hW c9
          replace ke := ke.later hW
          clear hW
          go_wp2_with fail
          all_goals first
            | (go_ret2; exact ⟨⟨_, _, rfl⟩, c8⟩)
            | (go_roundg (gk - 1)
               case measure => omega
               case rel => exact ⟨k + 1, by omega, by go_num, ke, c8⟩)
        · have hS0 : SB wr wr.drew := (Below.refl _ _).drew
          refine wp_region_held_drew (S := SB wr) (by kernel_rfl) hS0 (fun hS => ?_)
          clear hS0
          refine tk 0 (by decide) ?_ hS (by kernel_rfl) (by kernel_rfl) (by kernel_rfl) (by rfl) (fun _ _ _ h => h) ?_ ?_
          rotate_left
          · intro W hW
            have q0 := cell_later hW m0; have q1 := cell_later hW m1; have q2 := (ke.later hW).c2
            clear hW
            simp only [z0, z1]
            go_simp
            first | done | with_reducible rfl
          simp only [z0, z1, Act.put, z3, z4, z5]
          refine tk 1 (by decide) ?_ hS (by kernel_rfl) (by kernel_rfl) (by kernel_rfl) (by rfl) (fun _ _ _ h => h) ?_ ?_
          rotate_left
          · intro W hW
            have q0 := cell_later hW m0; have q1 := cell_later hW m1; have q2 := (ke.later hW).c2
            clear hW
            simp only [z0, z1]
            go_simp
            first | done | with_reducible rfl
          simp only [z0, z1, Act.put, z3, z4, z5]
          refine tk 2 (by decide) ?_ hS (by kernel_rfl) (by kernel_rfl) (by kernel_rfl) (by rfl) (fun _ _ _ h => h) ?_ ?_
          rotate_left
          · intro W hW
            have q0 := cell_later hW m0; have q1 := cell_later hW m1; have q2 := (ke.later hW).c2
            clear hW
            simp only [z0, z1]
            go_simp
            first | done | with_reducible rfl
          simp only [z0, z1, Act.put, z3, z4, z5]
          refine tk 3 (by decide) ?_ hS (by kernel_rfl) (by kernel_rfl) (by kernel_rfl) (by rfl) (fun _ _ _ h => h) ?_ ?_
          rotate_left
          · intro W hW
            have q0 := cell_later hW m0; have q1 := cell_later hW m1; have q2 := (ke.later hW).c2
            clear hW
            simp only [z0, z1]
            go_simp
            first | done | with_reducible rfl
          simp only [z0, z1, Act.put, z3, z4, z5]
          refine tk 4 (by decide) ?_ hS (by kernel_rfl) (by kernel_rfl) (by kernel_rfl) (by rfl) (fun _ _ _ h => h) ?_ ?_
          rotate_left
          · intro W hW
            have q0 := cell_later hW m0; have q1 := cell_later hW m1; have q2 := (ke.later hW).c2
            clear hW
            simp only [z0, z1]
            go_simp
            first | done | with_reducible rfl
          simp only [z0, z1, Act.put, z3, z4, z5]
          refine tk 5 (by decide) ?_ hS (by kernel_rfl) (by kernel_rfl) (by kernel_rfl) (by rfl) (fun _ _ _ h => h) ?_ ?_
          rotate_left
          · intro W hW
            have q0 := cell_later hW m0; have q1 := cell_later hW m1; have q2 := (ke.later hW).c2
            clear hW
            simp only [z0, z1]
            go_simp
            first | done | with_reducible rfl
          simp only [z0, z1, Act.put, z3, z4, z5]
          refine tk 6 (by decide) ?_ hS (by kernel_rfl) (by kernel_rfl) (by kernel_rfl) (by rfl) (fun _ _ _ h => h) ?_ ?_
          rotate_left
          · intro W hW
            have q0 := cell_later hW m0; have q1 := cell_later hW m1; have q2 := (ke.later hW).c2
            clear hW
            simp only [z0, z1]
            go_simp
            first | done | with_reducible rfl
          simp only [z0, z1, Act.put, z3, z4, z5]
          refine tk 7 (by decide) ?_ hS (by kernel_rfl) (by kernel_rfl) (by kernel_rfl) (by rfl) (fun _ _ _ h => h) ?_ ?_
          rotate_left
          · intro W hW
            have q0 := cell_later hW m0; have q1 := cell_later hW m1; have q2 := (ke.later hW).c2
            clear hW
            simp only [z0, z1]
            go_simp
            first | done | with_reducible rfl
          simp only [z0, z1, Act.put, z3, z4, z5]
          refine tk 8 (by decide) ?_ hS (by kernel_rfl) (by kernel_rfl) (by kernel_rfl) (by rfl) (fun _ _ _ h => h) ?_ ?_
          rotate_left
          · intro W hW
            have q0 := cell_later hW m0; have q1 := cell_later hW m1; have q2 := (ke.later hW).c2
            clear hW
            simp only [z0, z1]
            go_simp
            first | done | with_reducible rfl
          simp only [z0, z1, Act.put, z3, z4, z5]
          refine tk 9 (by decide) ?_ hS (by kernel_rfl) (by kernel_rfl) (by kernel_rfl) (by rfl) (fun _ _ _ h => h) ?_ ?_
          rotate_left
          · intro W hW
            have q0 := cell_later hW m0; have q1 := cell_later hW m1; have q2 := (ke.later hW).c2
            clear hW
            simp only [z0, z1]
            go_simp
            first | done | with_reducible rfl
          simp only [z0, z1, Act.put, z3, z4, z5]
          refine tk 10 (by decide) ?_ hS (by kernel_rfl) (by kernel_rfl) (by kernel_rfl) (by rfl) (fun _ _ _ h => h) ?_ ?_
          rotate_left
          · intro W hW
            have q0 := cell_later hW m0; have q1 := cell_later hW m1; have q2 := (ke.later hW).c2
            clear hW
            simp only [z0, z1]
            go_simp
            first | done | with_reducible rfl
          simp only [z0, z1, Act.put, z3, z4, z5]
          refine tk 11 (by decide) ?_ hS (by kernel_rfl) (by kernel_rfl) (by kernel_rfl) (by rfl) (fun _ _ _ h => h) ?_ ?_
          rotate_left
          · intro W hW
            have q0 := cell_later hW m0; have q1 := cell_later hW m1; have q2 := (ke.later hW).c2
            clear hW
            simp only [z0, z1]
            go_simp
            first | done | with_reducible rfl
          simp only [z0, z1, Act.put, z3, z4, z5]
          refine tk 12 (by decide) ?_ hS (by kernel_rfl) (by kernel_rfl) (by kernel_rfl) (by rfl) (fun _ _ _ h => h) ?_ ?_
          rotate_left
          · intro W hW
            have q0 := cell_later hW m0; have q1 := cell_later hW m1; have q2 := (ke.later hW).c2
            clear hW
            simp only [z0, z1]
            go_simp
            first | done | with_reducible rfl
          simp only [z0, z1, Act.put, z3, z4, z5]
          refine tk 13 (by decide) ?_ hS (by kernel_rfl) (by kernel_rfl) (by kernel_rfl) (by rfl) (fun _ _ _ h => h) ?_ ?_
          rotate_left
          · intro W hW
            have q0 := cell_later hW m0; have q1 := cell_later hW m1; have q2 := (ke.later hW).c2
            clear hW
            simp only [z0, z1]
            go_simp
            first | done | with_reducible rfl
          simp only [z0, z1, Act.put, z3, z4, z5]
          refine call_at 14 (by decide) (Pi := fun v _ => ∃ q : Bool, v = .bool q) (by kernel_rfl) (by rfl) (by simp only [z0, z1]; go_simp; first | done | rfl | exact ⟨rfl, rfl⟩ | exact ⟨rfl, rfl, rfl⟩ | exact ⟨rfl, rfl, rfl, rfl⟩) (call_isb hS (good11_any _ _)) ?_
          clear hS
          rintro w9 u hS ⟨q, rfl⟩
          simp only [z0, z1, Act.put, z3, z4, z5]
          refine tk 15 (by decide) ?_ hS (by kernel_rfl) (by kernel_rfl) (by kernel_rfl) (by rfl) (fun _ _ _ h => h) ?_ ?_
          rotate_left
          · intro W hW
            have q0 := cell_later hW m0; have q1 := cell_later hW m1; have q2 := (ke.later hW).c2
            clear hW
            simp only [z0, z1]
            go_simp
            first | done | with_reducible rfl
          simp only [z0, z1, Act.put, z3, z4, z5]
          refine wpAnyH_done (by kernel_rfl) ?_ _
          have c9 := bl2 hS hbr
          replace ke := ke.later hS
          replace m0 := cell_later hS m0
          replace m1 := cell_later hS m1
          clear hS hbr
          cases q
          · go_upto_region 14 with fail
            refine Reg.region_quiet (by kernel_rfl) (by kernel_rfl) ?_
            iterate 8 (first | go_big_quiet_skip | (go_big_quiet_want; (first | (go_big_quiet_op; go_big_quiet_on) | (apply Reg.quiet_run; (intro W hW; (have q0 := hW.cell m0; have q2 := (ke.later hW).c2); go_simp; (first | done | rfl | exact ⟨rfl, rfl⟩ )); (simp only [Act.put, List.setIfInBounds_toArray, List.set_cons_zero, List.set_cons_succ]; go_big_quiet_on)) | (apply Reg.quiet_call; (intro W hW; go_simp; (first | done | rfl | exact ⟨rfl, rfl⟩)); (intro W hW; (first | fail)); (simp only [Act.put, List.setIfInBounds_toArray, List.set_cons_zero, List.set_cons_succ]; go_big_quiet_on)))))
            refine wpQuiet_nil ?_
            intro w8 hW
            have c8 := bl2 hW c9
            replace ke := ke.later hW
            clear hW
            go_wp2_with fail
            all_goals first
              | (go_ret2; exact ⟨⟨_, _, rfl⟩, c8⟩)
              | (go_roundg (gk - 1)
                 case measure => omega
                 case rel => exact ⟨k + 1, by omega, by go_num, ke, c8⟩)
          · go_wp2_with fail
            (go_ret2; exact ⟨⟨_, _, rfl⟩, c9⟩)
      · go_wp2_with fail
        (go_ret2; exact ⟨⟨_, _, rfl⟩, hbr⟩)
  have g4 : (e.op == 4) = false := beq_eq_false_iff_ne.2 h4
  clear h4
  clear HVR
  have HNE := Lib.hid (show e.l.length ≤ 1000 by have := ln_nd e; have := HND.out; omega)
  go_upto_region 18 with fail
  have cx : Below w1.heap.size w1 (w1.alloc (.cells #[] 3)) := Bk.be
  have kx : Bk.Blk (w1.alloc (.cells #[] 3)) w1.heap.size #[] 3 := Bk.Blk.nw10
  have hkl := ke.lt
  have HV0 := Lib.hid (show Sr.IV (w1.alloc (.cells #[] 3)) (w.heap.size + 1) (.slice (some ⟨w1.heap.size, 0, none⟩) 0 0) [] from Sr.OwnR.gv Sr.ienc_len (by decide) ⟨by omega, by unfold maxLen; omega, [], by simp, kx⟩)
  replace ke := ke.later cx
  have c2 := bl2 cx cw
  clear cx kx hkl cw
  (try simp only [Act.put])
  generalize (w1.alloc (.cells #[] 3)) = w2 at *
  generalize w1.heap.size = g1 at *
  go_wp2_with fail
  go_loopg [7, 8] e.l.length (OfR w e)
  case atStart => exact ⟨0, [], by omega, rfl, HV0.out, rfl, ke, c2⟩
  case round =>
    clear ke c2 HV0
    obtain ⟨k, l, hk, rfl, hv, hll, ke, hbr⟩ := hrel
    have HV := Lib.hid hv
    have HLL := Lib.hid hll
    clear hv hll
    have e3 := ke.c3
    by_cases hlt : k < e.l.length
    · obtain ⟨b, off, ha, hc⟩ := rowat xpenc_len HR.out (by omega)
      have hm := range_later hbr (hc k hlt)
      clear hc
      have HC := Lib.hid (HIH.out k hlt)
      obtain ⟨x, hxx⟩ : ∃ x, x = e.l[k]! := ⟨_, rfl⟩
      rw [← hxx] at hm HC
      clear hxx
      rw [ha] at e3
      clear ha
      go_wp2_with ((refine wpList_load_mid rfl 139 _ rfl _ (off + k * 4) (by first | rfl | simp) ([.int .i64 (x).op, .int .i64 (x).n, .string (x).s, .slice (x).a (x).l.length (x).k]) _ (hm) Tryz.underlying139 rfl (by kernel_rfl) ?_))
      refine (HC.out _ hbr).mono ?_
      rintro r w3 ⟨⟨n, c, rfl⟩, hb⟩
      have c3 := bl2 hb hbr
      replace ke := ke.later hb
      have HV3 := Lib.hid (HV.out.later hb)
      clear hb e3 hbr HV
      by_cases h0 : c = 0
      · have g0 : (c != 0) = false := by rw [h0]; rfl
        clear h0
        have hz3 := c3.size
        have hkl := ke.lt
        have hk3 := HNE.out
        have hlk := HLL.out
        go_wp2_with (at_builtin; refine Sr.app_int n rfl _ _ rfl rfl HV3.out rfl (by omega) (by omega) ?_)
        intro v' w4 hv' hgr hx1
        clear hx1
        have c4 : Below w.heap.size w w4 := (c3.alloc hz3 _).grown hgr (by simp; omega) (fun j hj => by have := (HV3.out.lt j hj).2; omega)
        have ke4 := Sr.grown_blk ke hgr (fun e => by have := (HV3.out.lt _ e).2; omega)
        have HV4 := Lib.hid hv'
        clear hv' hgr hz3 hkl hk3 ke c3 hlk
        go_wp2_with fail
        go_roundg (gk - 1)
        case measure => omega
        case rel => exact ⟨k + 1, _, by omega, by go_num, HV4.out, by simp [HLL.out], ke4, c4⟩
      · have g0 : (c != 0) = true := bne_iff_ne.2 h0
        clear h0
        go_wp2_with fail
        (go_ret2; exact ⟨⟨_, _, rfl⟩, c3⟩)
    · obtain ⟨a7, c7, rfl, hr7, -⟩ := HV.out.row
      have HR7 := Lib.hid hr7
      have hl7 : l.length ≤ 1000000 := by have := HNE.out; have := HLL.out; omega
      clear hr7
      have e0 := ke.c0
      go_wp2_with fail
      refine (Result11_any _ a7 c7 l _ hl7 HR7.out).mono ?_
      rintro r w3 ⟨⟨n, q, rfl⟩, hb⟩
      have c3 := bl2 hb hbr
      cases q
      all_goals go_wp2_with fail
      all_goals (go_ret2; exact ⟨⟨_, _, rfl⟩, c3⟩)
set_option maxHeartbeats 16000000 in
theorem Of11_any (e : Xp) (va : Option Addr) (vc : Nat) (vs : List Vr) (w : World) (h : XpIn w e) (hvn : vs.length ≤ 100) (hvr : RowIn vrenc w va vs) : Calls Tryz.prog 139 #[.agg #[.int .i64 (e).op, .int .i64 (e).n, .string (e).s, .slice (e).a (e).l.length (e).k], .slice va vs.length vc] w fun r w' => Is2 r ∧ Below w.heap.size w w' := by
  have HVA := Lib.hid (fun (W : World) (hW : Below w.heap.size w W) => valid10_any e W (h.later hW))
  have HOF := Lib.hid (fun (hn : e.nd ≤ 1000) (W : World) (hW : Below w.heap.size w W) => of11_any e hn va vc vs W (h.later hW) hvn (hvr.later hW))
  clear h hvr
  have cw : Below w.heap.size w (w.alloc (.cells #[.int .i64 (e).op, .int .i64 (e).n, .string (e).s, .slice (e).a (e).l.length (e).k] 139)) := Bk.be
  have ke : Bk.Blk (w.alloc (.cells #[.int .i64 (e).op, .int .i64 (e).n, .string (e).s, .slice (e).a (e).l.length (e).k] 139)) w.heap.size _ 139 := Bk.Blk.nw10
  go_enter Tryz.func139, Tryz.ntmps139
  go_upto_region 1 with fail
  generalize (w.alloc (.cells _ 139)) = w1 at *
  go_wp2_with ((refine wpList_load_row rfl 139 _ rfl _ rfl _ _ _ _ (ke) Tryz.underlying139 rfl (by kernel_rfl) ?_))
  refine (HVA.out _ cw).mono ?_
  rintro r w2 ⟨⟨n, rfl, hn⟩, hb⟩
  have c2 := bl2 hb cw
  replace ke := ke.later hb
  have HN := Lib.hid hn
  clear hb cw hn
  by_cases h0 : n = 0
  · have g0 : (n != 0) = false := by rw [h0]; rfl
    have HND := Lib.hid (HN.out h0)
    clear h0
    go_wp2_with ((refine wpList_load_row rfl 139 _ rfl _ rfl _ _ _ _ (ke) Tryz.underlying139 rfl (by kernel_rfl) ?_))
    refine (HOF.out HND.out _ c2).mono ?_
    rintro r w3 ⟨⟨n, c, rfl⟩, hb⟩
    have c3 := bl2 hb c2
    go_wp2_with fail
    (go_ret2; exact ⟨⟨_, _, rfl⟩, c3⟩)
  · have g0 : (n != 0) = true := bne_iff_ne.2 h0
    clear h0
    go_wp2_with fail
    (go_ret2; exact ⟨⟨_, _, rfl⟩, c2⟩)
set_option maxHeartbeats 16000000 in
theorem Check11_any (e : Xp) (va : Option Addr) (vc : Nat) (vs : List Vr) (t : Int) (w : World) (h : XpIn w e) (hvn : vs.length ≤ 100) (hvr : RowIn vrenc w va vs) : Calls Tryz.prog 106 #[.agg #[.int .i64 (e).op, .int .i64 (e).n, .string (e).s, .slice (e).a (e).l.length (e).k], .slice va vs.length vc, .int .i64 t] w fun r w' => IsN r ∧ Below w.heap.size w w' := by
  have HOF := Lib.hid (fun (W : World) (hW : Below w.heap.size w W) => Of11_any e va vc vs W (h.later hW) hvn (hvr.later hW))
  clear h hvr
  have cw : Below w.heap.size w (w.alloc (.cells #[.int .i64 (e).op, .int .i64 (e).n, .string (e).s, .slice (e).a (e).l.length (e).k] 139)) := Bk.be
  have ke : Bk.Blk (w.alloc (.cells #[.int .i64 (e).op, .int .i64 (e).n, .string (e).s, .slice (e).a (e).l.length (e).k] 139)) w.heap.size _ 139 := Bk.Blk.nw10
  go_enter Tryz.func106, Tryz.ntmps106
  go_upto_region 1 with fail
  generalize (w.alloc (.cells _ 139)) = w1 at *
  go_wp2_with ((refine wpList_load_row rfl 139 _ rfl _ rfl _ _ _ _ (ke) Tryz.underlying139 rfl (by kernel_rfl) ?_))
  refine (HOF.out _ cw).mono ?_
  rintro r w2 ⟨⟨n, c, rfl⟩, hb⟩
  have c2 := bl2 hb cw
  clear hb
  go_wp2_with fail
  all_goals (go_ret; exact ⟨⟨_, rfl⟩, c2⟩)
end Go.Proofs.YtjhpiclnpmdjnaaGreatDoor.Bm
