/-
  Parts of the proof: Y5.
-/
import Derived.Test.YtjhpiclnpmdjnaaGreatDoorQ29
namespace Go.Proofs.YtjhpiclnpmdjnaaGreatDoor.Bm
open Go Go.RowKit
open Go.Proofs.YtjhpiclnpmdjnaaGreatDoor
open Go.Proofs.YtjhpiclnpmdjnaaGreatDoor.Kl (byt byt_get)
open Go.Proofs.YtjhpiclnpmdjnaaGreatDoor.Ln (SB tk ts z0 z1 z3 z4 z5 take_at call_at flat flat_len flat_get flat_mem RowIn OwnR Idx bl2 results2_cell Blk_setRow_same Blk_setRow_ne Below_setRow)
set_option linter.unusedSimpArgs false
set_option linter.unusedVariables false
set_option maxRecDepth 100000
theorem call_isb2 {P : Program} {w0 : World} {f : FuncId} {args : Array Value} {W : World} (hS : SB w0 W) (h : Calls P f args W fun e w' => IsB e ∧ Below W.heap.size W w') : Calls P f args W fun e w' => ∃ v, e = .returned v ∧ (∃ q : Bool, v = .bool q) ∧ SB w0 w' :=
  h.mono fun _ _ ⟨⟨q, he⟩, hb⟩ => ⟨_, he, ⟨q, rfl⟩, bl2 hb hS⟩
set_option maxHeartbeats 32000000 in
theorem rchk17_any (a : Option Addr) (cap : Nat) (l : List Pd) (w : World) (hl : l.length ≤ maxLen) (h : RowIn pdenc w a l) :
    Calls Tryz.prog 35 #[.slice a l.length cap] w fun e w' => IsN e ∧ Below w.heap.size w w' := by
  have H := Lib.hid h
  have hm : l.length ≤ 9223372036854775807 := by unfold maxLen at hl; omega
  clear hl h
  go_enter Tryz.func35, Tryz.ntmps35
  go_wp2_with fail
  all_goals first
    | (go_ret; exact ⟨⟨_, rfl⟩, Below.refl _ _⟩)
    | skip
  go_loopg [3] (l.length - 1) (CntUB l.length w)
  case atStart => exact ⟨1, by omega, by omega, rfl, Below.refl _ _⟩
  case round =>
    obtain ⟨i, hi, hi1, rfl, hbr⟩ := hrel
    by_cases hlt : i < l.length
    · obtain ⟨b, off, rfl, hc⟩ := rowat pdenc_len H.out (by omega)
      have hm1 := range_later hbr (hc i hlt)
      have i3 : i - 1 < l.length := by omega
      have hm2 := range_later hbr (hc (i - 1) i3)
      clear hc
      obtain ⟨d, hd⟩ : ∃ d, d = l[i]! := ⟨_, rfl⟩
      obtain ⟨d2, hd2⟩ : ∃ d2, d2 = l[i - 1]! := ⟨_, rfl⟩
      rw [← hd] at hm1
      rw [← hd2] at hm2
      clear hd hd2
      have hw0 : IntKind.i64.wrap ((i : Int) - 1) = ((i - 1 : Nat) : Int) := by rw [IntKind.wrap_i64]; omega
      go_upto_region 6 with fail
      have hS0 : SB wr wr.drew := (Below.refl _ _).drew
      refine wp_region_held_drew (S := SB wr) (by kernel_rfl) hS0 (fun hS => ?_)
      clear hS0
      refine tk 0 (by decide) ?_ hS (by kernel_rfl) (by kernel_rfl) (by kernel_rfl) (by rfl) (fun _ _ _ h => h) ?_ ?_
      rotate_left
      · intro W hW
        clear hW
        simp only [z0, z1]
        go_simp
        first | done | with_reducible rfl
      simp only [z0, z1, Act.put, z3, z4, z5]
      refine tk 1 (by decide) ?_ hS (by kernel_rfl) (by kernel_rfl) (by kernel_rfl) (by rfl) (fun _ _ _ h => h) ?_ ?_
      rotate_left
      · intro W hW
        clear hW
        simp only [z0, z1]
        go_simp
        first | done | with_reducible rfl
      simp only [z0, z1, Act.put, z3, z4, z5]
      refine tk 2 (by decide) ?_ hS (by kernel_rfl) (by kernel_rfl) (by kernel_rfl) (by rfl) (fun _ _ _ h => h) ?_ ?_
      rotate_left
      · intro W hW
        clear hW
        simp only [z0, z1]
        go_simp
        first | done | with_reducible rfl
      simp only [z0, z1, Act.put, z3, z4, z5]
      refine tk 3 (by decide) ?_ hS (by kernel_rfl) (by kernel_rfl) (by kernel_rfl) (by rfl) (fun _ _ _ h => h) ?_ ?_
      rotate_left
      · intro W hW
        clear hW
        simp only [z0, z1]
        go_simp
        first | done | with_reducible rfl
      simp only [z0, z1, Act.put, z3, z4, z5]
      refine take_at 4 (by decide) (by kernel_rfl) (by kernel_rfl) (by kernel_rfl) (fun _ _ _ h => h) hS (yieldsIf_load_mid (by rfl) 73 (.tmp 17) rfl _ _ rfl [.string (d2).nm, .string (d2).cu, .string (d2).ca, .int .i64 (d2).fr, .int .i64 (d2).ev, .int .i64 (d2).ov, .int .i64 (d2).tx, .slice ((d2).ci).ta ((d2).ci).tn ((d2).ci).tk, .bool ((d2).ci).mg, .int .i64 ((d2).ci).ba, .int .i64 ((d2).ci).mo, .bool ((d2).ci).kp, .slice ((d2).di).ta ((d2).di).tn ((d2).di).tk, .bool ((d2).di).mg, .int .i64 ((d2).di).ba, .int .i64 ((d2).di).mo, .bool ((d2).di).kp, .slice (d2).fa (d2).fn (d2).fk, .slice (d2).ra (d2).rn (d2).rk] _ (fun W hW => range_later hW hm2) Tryz.underlying73 rfl (by kernel_rfl)) ?_
      simp only [z0, z1, Act.put, z3, z4, z5]
      refine tk 5 (by decide) ?_ hS (by kernel_rfl) (by kernel_rfl) (by kernel_rfl) (by rfl) (fun _ _ _ h => h) ?_ ?_
      rotate_left
      · intro W hW
        clear hW
        simp only [z0, z1]
        go_simp
        first | done | with_reducible rfl
      simp only [z0, z1, Act.put, z3, z4, z5]
      refine tk 6 (by decide) ?_ hS (by kernel_rfl) (by kernel_rfl) (by kernel_rfl) (by rfl) (fun _ _ _ h => h) ?_ ?_
      rotate_left
      · intro W hW
        clear hW
        simp only [z0, z1]
        go_simp
        first | done | with_reducible rfl
      simp only [z0, z1, Act.put, z3, z4, z5]
      refine tk 7 (by decide) ?_ hS (by kernel_rfl) (by kernel_rfl) (by kernel_rfl) (by rfl) (fun _ _ _ h => h) ?_ ?_
      rotate_left
      · intro W hW
        clear hW
        simp only [z0, z1]
        go_simp
        first | done | with_reducible rfl
      simp only [z0, z1, Act.put, z3, z4, z5]
      refine take_at 8 (by decide) (by kernel_rfl) (by kernel_rfl) (by kernel_rfl) (fun _ _ _ h => h) hS (yieldsIf_load_mid (by rfl) 73 (.tmp 21) rfl _ _ rfl [.string (d).nm, .string (d).cu, .string (d).ca, .int .i64 (d).fr, .int .i64 (d).ev, .int .i64 (d).ov, .int .i64 (d).tx, .slice ((d).ci).ta ((d).ci).tn ((d).ci).tk, .bool ((d).ci).mg, .int .i64 ((d).ci).ba, .int .i64 ((d).ci).mo, .bool ((d).ci).kp, .slice ((d).di).ta ((d).di).tn ((d).di).tk, .bool ((d).di).mg, .int .i64 ((d).di).ba, .int .i64 ((d).di).mo, .bool ((d).di).kp, .slice (d).fa (d).fn (d).fk, .slice (d).ra (d).rn (d).rk] _ (fun W hW => range_later hW hm1) Tryz.underlying73 rfl (by kernel_rfl)) ?_
      simp only [z0, z1, Act.put, z3, z4, z5]
      refine call_at 9 (by decide) (Pi := fun v _ => ∃ q : Bool, v = .bool q) (by kernel_rfl) (by rfl) (by simp only [z0, z1]; go_simp; first | done | rfl | exact ⟨rfl, rfl⟩) (call_isb2 hS (rbef17_any d2 d _)) ?_
      clear hS
      rintro w9 u hS ⟨q, rfl⟩
      simp only [z0, z1, Act.put, z3, z4, z5]
      refine tk 10 (by decide) ?_ hS (by kernel_rfl) (by kernel_rfl) (by kernel_rfl) (by rfl) (fun _ _ _ h => h) ?_ ?_
      rotate_left
      · intro W hW
        clear hW
        simp only [z0, z1]
        go_simp
        first | done | with_reducible rfl
      simp only [z0, z1, Act.put, z3, z4, z5]
      refine wpAnyH_done (by kernel_rfl) ?_ _
      have c9 := bl2 hS hbr
      clear hS hbr hm1 hm2
      cases q
      · go_wp2_with fail
        (go_ret; exact ⟨⟨_, rfl⟩, c9⟩)
      · go_wp2_with fail
        go_roundg (gk - 1)
        case measure => omega
        case rel => exact ⟨i + 1, by omega, by omega, by go_num, c9⟩
    · go_wp2_with fail
      clear hlt hi hi1
      go_loopg [4] (l.length - 1) (CntUB l.length w)
      case atStart => exact ⟨1, by omega, by omega, rfl, hbr⟩
      case round =>
        clear hbr
        obtain ⟨i, hi, hi1, rfl, hbr⟩ := hrel
        by_cases hlt : i < l.length
        · obtain ⟨b, off, rfl, hc⟩ := rowat pdenc_len H.out (by omega)
          have hm1 := range_later hbr (hc i hlt)
          have i3 : i - 1 < l.length := by omega
          have hm2 := range_later hbr (hc (i - 1) i3)
          clear hc
          obtain ⟨d, hd⟩ : ∃ d, d = l[i]! := ⟨_, rfl⟩
          obtain ⟨d2, hd2⟩ : ∃ d2, d2 = l[i - 1]! := ⟨_, rfl⟩
          rw [← hd] at hm1
          rw [← hd2] at hm2
          clear hd hd2
          have m0 : wr.cell? ⟨b, off + i * 19, none⟩ = some (.string d.nm) := hm1 0 _ rfl
          have p0 : wr.cell? ⟨b, off + (i - 1) * 19, none⟩ = some (.string d2.nm) := hm2 0 _ rfl
          have m1 : wr.cell? ⟨b, off + i * 19 + 1, none⟩ = some (.string d.cu) := hm1 1 _ rfl
          have p1 : wr.cell? ⟨b, off + (i - 1) * 19 + 1, none⟩ = some (.string d2.cu) := hm2 1 _ rfl
          have hw0 : IntKind.i64.wrap ((i : Int) - 1) = ((i - 1 : Nat) : Int) := by rw [IntKind.wrap_i64]; omega
          clear hm1 hm2
          go_upto_region 11 with fail
          cases hv : (d.nm.toList == d2.nm.toList)
          all_goals
            refine Reg.region_quiet (by kernel_rfl) (by kernel_rfl) ?_
            iterate 26 (first | go_big_quiet_skip | (go_big_quiet_want; (first | (go_big_quiet_op; go_big_quiet_on) | (apply Reg.quiet_run; (intro W hW; (have q0 := hW.cell m0; have q1 := hW.cell p0; have q2 := hW.cell m1; have q3 := hW.cell p1); go_simp; (first | done | rfl | exact ⟨rfl, rfl⟩ )); (simp only [Act.put, List.setIfInBounds_toArray, List.set_cons_zero, List.set_cons_succ]; go_big_quiet_on)) | (apply Reg.quiet_call; (intro W hW; go_simp; (first | done | rfl | exact ⟨rfl, rfl⟩)); (intro W hW; (first | fail)); (simp only [Act.put, List.setIfInBounds_toArray, List.set_cons_zero, List.set_cons_succ]; go_big_quiet_on)))))
            refine wpQuiet_nil ?_
            intro w8 hW
            have c8 := bl2 hW hbr
            go_wp2_with fail
          all_goals first
            | (go_ret; exact ⟨⟨_, rfl⟩, c8⟩)
            | (go_roundg (gk - 1)
               case measure => omega
               case rel => exact ⟨i + 1, by omega, by omega, by go_num, c8⟩)
        · go_wp2_with fail
          (go_ret; exact ⟨⟨_, rfl⟩, hbr⟩)
def RFd (e : Ending) : Prop := ∃ (x : Pd) (q : Bool), e = .returned (.tuple #[(.agg #[.string (x).nm, .string (x).cu, .string (x).ca, .int .i64 (x).fr, .int .i64 (x).ev, .int .i64 (x).ov, .int .i64 (x).tx, .slice ((x).ci).ta ((x).ci).tn ((x).ci).tk, .bool ((x).ci).mg, .int .i64 ((x).ci).ba, .int .i64 ((x).ci).mo, .bool ((x).ci).kp, .slice ((x).di).ta ((x).di).tn ((x).di).tk, .bool ((x).di).mg, .int .i64 ((x).di).ba, .int .i64 ((x).di).mo, .bool ((x).di).kp, .slice (x).fa (x).fn (x).fk, .slice (x).ra (x).rn (x).rk]), .bool q])
def AtW (w : World) (n : Nat) (g : Nat) (s8 s9 : Value) (W : World) : Prop := ∃ (k : Nat) (at_ : Int), k + g = n ∧ s9 = .int .i64 k ∧ s8 = .int .i64 at_ ∧ (at_ = -1 ∨ ∃ j : Nat, j < k ∧ at_ = (j : Int)) ∧ Bk.Blk W w.heap.size #[.string { data := #[] }, .string { data := #[] }, .string { data := #[] }, .int .i64 0, .int .i64 0, .int .i64 0, .int .i64 0, .slice none 0 0, .bool false, .int .i64 0, .int .i64 0, .bool false, .slice none 0 0, .bool false, .int .i64 0, .int .i64 0, .bool false, .slice none 0 0, .slice none 0 0] 73 ∧ Below w.heap.size w W
set_option maxHeartbeats 32000000 in
theorem rat17_any (a : Option Addr) (cap : Nat) (l : List Pd) (nm : ByteArray) (day : Int) (w : World) (hl : l.length ≤ maxLen) (h : RowIn pdenc w a l) :
    Calls Tryz.prog 74 #[.slice a l.length cap, .string nm, .int .i64 day] w fun e w' => RFd e ∧ Below w.heap.size w w' := by
  have H := Lib.hid h
  have hm : l.length ≤ 9223372036854775807 := by unfold maxLen at hl; omega
  clear hl
  have cw : Below w.heap.size w (w.alloc (.cells #[.string { data := #[] }, .string { data := #[] }, .string { data := #[] }, .int .i64 0, .int .i64 0, .int .i64 0, .int .i64 0, .slice none 0 0, .bool false, .int .i64 0, .int .i64 0, .bool false, .slice none 0 0, .bool false, .int .i64 0, .int .i64 0, .bool false, .slice none 0 0, .slice none 0 0] 73)) := Bk.be
  have kz : Bk.Blk (w.alloc (.cells #[.string { data := #[] }, .string { data := #[] }, .string { data := #[] }, .int .i64 0, .int .i64 0, .int .i64 0, .int .i64 0, .slice none 0 0, .bool false, .int .i64 0, .int .i64 0, .bool false, .slice none 0 0, .bool false, .int .i64 0, .int .i64 0, .bool false, .slice none 0 0, .slice none 0 0] 73)) w.heap.size _ 73 := Bk.Blk.nw10
  clear h
  go_enter Tryz.func74, Tryz.ntmps74
  go_upto_region 1 with fail
  generalize (w.alloc (.cells _ 73)) = w1 at *
  go_wp2_with fail
  go_loopg [8, 9] l.length (AtW w l.length)
  case atStart => exact ⟨0, -1, by omega, rfl, rfl, .inl rfl, kz, cw⟩
  case round =>
    clear kz cw
    obtain ⟨k, at_, hk, rfl, rfl, hj, kz, hbr⟩ := hrel
    have HJ := Lib.hid hj
    by_cases hlt : k < l.length
    · obtain ⟨b, off, rfl, hc⟩ := rowat pdenc_len H.out (by omega)
      have hm1 := range_later hbr (hc k hlt)
      have HC := Lib.hid (fun (j : Nat) (hj : j < l.length) => range_later hbr (hc j hj))
      clear hc
      obtain ⟨d, hd⟩ : ∃ d, d = l[k]! := ⟨_, rfl⟩
      rw [← hd] at hm1
      clear hd
      have m0 : wr.cell? ⟨b, off + k * 19, none⟩ = some (.string d.nm) := hm1 0 _ rfl
      have m3 : wr.cell? ⟨b, off + k * 19 + 3, none⟩ = some (.int .i64 d.fr) := hm1 3 _ rfl
      clear hm1
      go_upto_region 5 with fail
      cases h1 : (d.nm.toList == nm.toList)
      · clear hj
        refine Reg.region_quiet (by kernel_rfl) (by kernel_rfl) ?_
        iterate 33 (first | go_big_quiet_skip | (go_big_quiet_want; (first | (go_big_quiet_op; go_big_quiet_on) | (apply Reg.quiet_run; (intro W hW; (have q0 := hW.cell m0; have q3 := hW.cell m3); go_simp; (first | done | rfl | exact ⟨rfl, rfl⟩ )); (simp only [Act.put, List.setIfInBounds_toArray, List.set_cons_zero, List.set_cons_succ]; go_big_quiet_on)) | (apply Reg.quiet_call; (intro W hW; go_simp; (first | done | rfl | exact ⟨rfl, rfl⟩)); (intro W hW; (first | fail)); (simp only [Act.put, List.setIfInBounds_toArray, List.set_cons_zero, List.set_cons_succ]; go_big_quiet_on)))))
        refine wpQuiet_nil ?_
        intro w8 hW
        have c8 := bl2 hW hbr
        replace kz := kz.later hW
        clear hW
        go_wp2_with fail
        all_goals
          go_roundg (gk - 1)
          case measure => omega
          case rel => exact ⟨k + 1, _, by omega, by go_num, rfl, by first | exact HJ.out | exact .inl rfl | exact .inr ⟨k, by omega, rfl⟩ | (refine HJ.out.imp id ?_; rintro ⟨j', hj', e'⟩; exact ⟨j', by omega, e'⟩), kz, c8⟩
      · by_cases h2 : d.fr ≤ day
        · rcases hj with rfl | ⟨j, hjk, rfl⟩
          · have g5 : decide ((-1 : Int) < 0) = true := rfl
            refine Reg.region_quiet (by kernel_rfl) (by kernel_rfl) ?_
            iterate 33 (first | go_big_quiet_skip | (go_big_quiet_want; (first | (go_big_quiet_op; go_big_quiet_on) | (apply Reg.quiet_run; (intro W hW; (have q0 := hW.cell m0; have q3 := hW.cell m3); go_simp; (first | done | rfl | exact ⟨rfl, rfl⟩ )); (simp only [Act.put, List.setIfInBounds_toArray, List.set_cons_zero, List.set_cons_succ]; go_big_quiet_on)) | (apply Reg.quiet_call; (intro W hW; go_simp; (first | done | rfl | exact ⟨rfl, rfl⟩)); (intro W hW; (first | fail)); (simp only [Act.put, List.setIfInBounds_toArray, List.set_cons_zero, List.set_cons_succ]; go_big_quiet_on)))))
            refine wpQuiet_nil ?_
            intro w8 hW
            have c8 := bl2 hW hbr
            replace kz := kz.later hW
            clear hW
            go_wp2_with fail
            all_goals
              go_roundg (gk - 1)
              case measure => omega
              case rel => exact ⟨k + 1, _, by omega, by go_num, rfl, by first | exact HJ.out | exact .inl rfl | exact .inr ⟨k, by omega, rfl⟩ | (refine HJ.out.imp id ?_; rintro ⟨j', hj', e'⟩; exact ⟨j', by omega, e'⟩), kz, c8⟩
          · have g5 : decide ((j : Int) < 0) = false := decide_eq_false (by omega)
            have hjl : j < l.length := by omega
            have hm2 := HC.out j hjl
            obtain ⟨d2, hd2⟩ : ∃ d2, d2 = l[j]! := ⟨_, rfl⟩
            rw [← hd2] at hm2
            clear hd2
            have p3 : wr.cell? ⟨b, off + j * 19 + 3, none⟩ = some (.int .i64 d2.fr) := hm2 3 _ rfl
            clear hm2
            refine Reg.region_quiet (by kernel_rfl) (by kernel_rfl) ?_
            iterate 33 (first | go_big_quiet_skip | (go_big_quiet_want; (first | (go_big_quiet_op; go_big_quiet_on) | (apply Reg.quiet_run; (intro W hW; (have q0 := hW.cell m0; have q3 := hW.cell m3; have q4 := hW.cell p3); go_simp; (first | done | rfl | exact ⟨rfl, rfl⟩ )); (simp only [Act.put, List.setIfInBounds_toArray, List.set_cons_zero, List.set_cons_succ]; go_big_quiet_on)) | (apply Reg.quiet_call; (intro W hW; go_simp; (first | done | rfl | exact ⟨rfl, rfl⟩)); (intro W hW; (first | fail)); (simp only [Act.put, List.setIfInBounds_toArray, List.set_cons_zero, List.set_cons_succ]; go_big_quiet_on)))))
            refine wpQuiet_nil ?_
            intro w8 hW
            have c8 := bl2 hW hbr
            replace kz := kz.later hW
            clear hW
            go_wp2_with fail
            all_goals
              go_roundg (gk - 1)
              case measure => omega
              case rel => exact ⟨k + 1, _, by omega, by go_num, rfl, by first | exact HJ.out | exact .inl rfl | exact .inr ⟨k, by omega, rfl⟩ | (refine HJ.out.imp id ?_; rintro ⟨j', hj', e'⟩; exact ⟨j', by omega, e'⟩), kz, c8⟩
        · clear hj
          refine Reg.region_quiet (by kernel_rfl) (by kernel_rfl) ?_
          iterate 33 (first | go_big_quiet_skip | (go_big_quiet_want; (first | (go_big_quiet_op; go_big_quiet_on) | (apply Reg.quiet_run; (intro W hW; (have q0 := hW.cell m0; have q3 := hW.cell m3); go_simp; (first | done | rfl | exact ⟨rfl, rfl⟩ )); (simp only [Act.put, List.setIfInBounds_toArray, List.set_cons_zero, List.set_cons_succ]; go_big_quiet_on)) | (apply Reg.quiet_call; (intro W hW; go_simp; (first | done | rfl | exact ⟨rfl, rfl⟩)); (intro W hW; (first | fail)); (simp only [Act.put, List.setIfInBounds_toArray, List.set_cons_zero, List.set_cons_succ]; go_big_quiet_on)))))
          refine wpQuiet_nil ?_
          intro w8 hW
          have c8 := bl2 hW hbr
          replace kz := kz.later hW
          clear hW
          go_wp2_with fail
          all_goals
            go_roundg (gk - 1)
            case measure => omega
            case rel => exact ⟨k + 1, _, by omega, by go_num, rfl, by first | exact HJ.out | exact .inl rfl | exact .inr ⟨k, by omega, rfl⟩ | (refine HJ.out.imp id ?_; rintro ⟨j', hj', e'⟩; exact ⟨j', by omega, e'⟩), kz, c8⟩
    · rcases hj with rfl | ⟨j, hjk, rfl⟩
      · go_wp2_with ((refine wpList_store_row rfl 73 _ _ rfl _ _ rfl rfl _ _ (kz) (by kernel_rfl) rfl (by simp [Value.oneCell']) ?_))
        (try simp only [Exit.inBlock, Exit.then])
        refine bodyPost_ret (results2_cell Tryz.results74 _ _ _ _ _ _ _ rfl (Blk_setRow_same kz) Tryz.underlying73 rfl (by kernel_rfl)) rfl ?_
        exact ⟨⟨default, _, rfl⟩, Below_setRow hbr (Nat.le_refl _) _⟩
      · have g5 : decide ((j : Int) < 0) = false := decide_eq_false (by omega)
        obtain ⟨b, off, rfl, hc⟩ := rowat pdenc_len H.out (by omega)
        have hjl : j < l.length := by omega
        have hm1 := range_later hbr (hc j hjl)
        clear hc
        obtain ⟨d, hd⟩ : ∃ d, d = l[j]! := ⟨_, rfl⟩
        rw [← hd] at hm1
        clear hd
        go_wp2_with (first | (refine wpList_load_mid rfl 73 _ rfl _ (off + j * 19) (by first | rfl | simp) ([.string (d).nm, .string (d).cu, .string (d).ca, .int .i64 (d).fr, .int .i64 (d).ev, .int .i64 (d).ov, .int .i64 (d).tx, .slice ((d).ci).ta ((d).ci).tn ((d).ci).tk, .bool ((d).ci).mg, .int .i64 ((d).ci).ba, .int .i64 ((d).ci).mo, .bool ((d).ci).kp, .slice ((d).di).ta ((d).di).tn ((d).di).tk, .bool ((d).di).mg, .int .i64 ((d).di).ba, .int .i64 ((d).di).mo, .bool ((d).di).kp, .slice (d).fa (d).fn (d).fk, .slice (d).ra (d).rn (d).rk]) _ (hm1) Tryz.underlying73 rfl (by kernel_rfl) ?_) | (refine wpList_store_row rfl 73 _ _ rfl _ _ rfl rfl _ _ (kz) (by kernel_rfl) rfl (by simp [Value.oneCell']) ?_))
        (try simp only [Exit.inBlock, Exit.then])
        refine bodyPost_ret (results2_cell Tryz.results74 _ _ _ _ _ _ _ rfl (Blk_setRow_same kz) Tryz.underlying73 rfl (by kernel_rfl)) rfl ?_
        exact ⟨⟨d, _, rfl⟩, Below_setRow hbr (Nat.le_refl _) _⟩
set_option maxHeartbeats 16000000 in
theorem rused_any (a : Option Addr) (cap : Nat) (l : List Gl) (id kind : Int) (w : World) (hl : l.length ≤ maxLen) (h : RowIn glenc w a l) :
    Calls Tryz.prog 34 #[.slice a l.length cap, .int .i64 id, .int .i64 kind] w fun e w' => IsN e ∧ Below w.heap.size w w' := by
  have HP := Lib.hid (fun (W : World) (hW : Below w.heap.size w W) => rpar18_any a cap l id W hl (h.later hW))
  have HF := Lib.hid (rcfind_any a cap l id w hl h)
  clear hl h
  go_enter Tryz.func34, Tryz.ntmps34
  go_wp2_with fail
  refine HF.out.mono ?_
  rintro e w2 ⟨⟨x, q, rfl⟩, hb⟩
  go_upto_region 2 with ((refine wpList_store_row rfl 64 _ _ rfl _ _ rfl rfl _ _ (Bk.Blk.nw10) (by kernel_rfl) rfl (by simp [Value.oneCell']) ?_))
  have cx : Below w2.heap.size w2 ((w2.alloc (.cells #[.int .i64 0, .int .i64 0, .int .i64 0, .string { data := #[] }] 64)).setRow w2.heap.size #[.int .i64 (x).id, .int .i64 (x).pa, .int .i64 (x).ki, .string (x).nm]) := Below_setRow ((Below.refl _ _).alloc (Nat.le_refl _) _) (Nat.le_refl _) _
  have kx : Bk.Blk ((w2.alloc (.cells #[.int .i64 0, .int .i64 0, .int .i64 0, .string { data := #[] }] 64)).setRow w2.heap.size #[.int .i64 (x).id, .int .i64 (x).pa, .int .i64 (x).ki, .string (x).nm]) w2.heap.size _ 64 := Blk_setRow_same Bk.Blk.nw10
  have c3 := bl2 cx hb
  clear cx hb
  (try simp only [Act.put])
  generalize ((w2.alloc (.cells _ 64)).setRow w2.heap.size _) = w3 at *
  generalize w2.heap.size = g2 at *
  cases q
  · go_wp2_with fail
    (go_ret; exact ⟨⟨_, rfl⟩, c3⟩)
  · go_wp2_with fail
    refine (HP.out _ c3).mono ?_
    rintro e w' ⟨⟨q, rfl⟩, rfl⟩
    have x2 := kx.c2
    cases q
    all_goals go_wp2_with fail
    all_goals (go_ret; exact ⟨⟨_, rfl⟩, c3⟩)
end Go.Proofs.YtjhpiclnpmdjnaaGreatDoor.Bm
