/-
  StandingChecks, StandingGivesUp: their walks.
-/
import Derived.Test.YtdlmoijeflchgaaSo7
namespace Go.Proofs.Ytdlmoijeflchgaa.So
open Go Go.RowKit
open Go.Proofs.Ytdlmoijeflchgaa
open Go.Proofs.Ytdlmoijeflchgaa.Kl (Cl CalIn)
open Go.Proofs.Ytdlmoijeflchgaa.Ln (flat flat_len RowIn OwnR bl2 take_at one_at call_wp call_one call_at yields_load_row load_guarded)
set_option linter.unusedSimpArgs false
set_option linter.unusedVariables false
set_option maxRecDepth 100000

def FewO (w : World) (e : Ending) (w' : World) : Prop := ∃ b : Bool, e = .returned (.bool b) ∧ Below w.heap.size w w'
set_option maxHeartbeats 4000000 in
theorem light_any (c : Cl) (wa ha : Option Addr) (wc hc : Nat) (w : World) (h0 : c.nm.size ≤ 9223372036854775807) (h1 : c.wk.length ≤ 9223372036854775807) (h2 : c.hol.length ≤ 9223372036854775807) : Calls Try.prog 7 #[(.agg #[.string (c).nm, .slice wa (c).wk.length wc, .slice ha (c).hol.length hc])] w (FewO w) := by
  have cw : Below w.heap.size w (w.alloc (.cells #[.string c.nm, .slice wa c.wk.length wc, .slice ha c.hol.length hc] 26)) := (Below.refl _ _).alloc (Nat.le_refl _) _
  have kc : Bk.Blk (w.alloc (.cells #[.string c.nm, .slice wa c.wk.length wc, .slice ha c.hol.length hc] 26)) w.heap.size #[.string c.nm, .slice wa c.wk.length wc, .slice ha c.hol.length hc] 26 := Bk.Blk.nw10
  go_enter Try.func7, Try.ntmps7
  go_upto_region 1 with fail
  generalize (w.alloc (.cells #[.string c.nm, .slice wa c.wk.length wc, .slice ha c.hol.length hc] 26)) = w1 at *
  have m0 := kc.c0
  have m1 := kc.c1
  have m2 := kc.c2
  by_cases a1 : c.nm.size ≤ 100
  · by_cases a2 : c.wk.length ≤ 20
    · by_cases a3 : c.hol.length ≤ 60
      · go_wp2_with fail
        go_ret
        exact ⟨_, rfl, cw⟩
      · go_wp2_with fail
        go_ret
        exact ⟨_, rfl, cw⟩
    · go_wp2_with fail
      go_ret
      exact ⟨_, rfl, cw⟩
  · go_wp2_with fail
    go_ret
    exact ⟨_, rfl, cw⟩
set_option maxHeartbeats 32000000 in
theorem checks_walk (o : Od) (c : Cl) (wa ha : Option Addr) (wc hc : Nat) (hs : o.tx.size ≤ maxLen) (w : World) (h : CalIn w c wa ha) : Calls Try.prog 3 #[(.agg #[.int .i64 (o).id, .int .i64 (o).fr, .int .i64 (o).too, .int .i64 (o).am, .int .i64 (o).day, .int .i64 (o).ev, .int .i64 (o).an, .int .i64 (o).un, .int .i64 (o).tr, .string (o).tx]), (.agg #[.string (c).nm, .slice wa (c).wk.length wc, .slice ha (c).hol.length hc])] w fun e w' => e = .returned (.bool true) ∧ Below w.heap.size w w' := by
  have cw : Below w.heap.size w ((w.alloc (.cells #[.int .i64 (o).id, .int .i64 (o).fr, .int .i64 (o).too, .int .i64 (o).am, .int .i64 (o).day, .int .i64 (o).ev, .int .i64 (o).an, .int .i64 (o).un, .int .i64 (o).tr, .string (o).tx] 23)).alloc (.cells #[.string c.nm, .slice wa c.wk.length wc, .slice ha c.hol.length hc] 26)) := ((Below.refl _ _).alloc (Nat.le_refl _) _).alloc (by simp) _
  have k0 : Bk.Blk ((w.alloc (.cells #[.int .i64 (o).id, .int .i64 (o).fr, .int .i64 (o).too, .int .i64 (o).am, .int .i64 (o).day, .int .i64 (o).ev, .int .i64 (o).an, .int .i64 (o).un, .int .i64 (o).tr, .string (o).tx] 23)).alloc (.cells #[.string c.nm, .slice wa c.wk.length wc, .slice ha c.hol.length hc] 26)) w.heap.size #[.int .i64 (o).id, .int .i64 (o).fr, .int .i64 (o).too, .int .i64 (o).am, .int .i64 (o).day, .int .i64 (o).ev, .int .i64 (o).an, .int .i64 (o).un, .int .i64 (o).tr, .string (o).tx] 23 := Bk.Blk.nw20
  have kc : Bk.Blk ((w.alloc (.cells #[.int .i64 (o).id, .int .i64 (o).fr, .int .i64 (o).too, .int .i64 (o).am, .int .i64 (o).day, .int .i64 (o).ev, .int .i64 (o).an, .int .i64 (o).un, .int .i64 (o).tr, .string (o).tx] 23)).alloc (.cells #[.string c.nm, .slice wa c.wk.length wc, .slice ha c.hol.length hc] 26)) (w.heap.size + 1) #[.string c.nm, .slice wa c.wk.length wc, .slice ha c.hol.length hc] 26 := Bk.Blk.nw21
  have hi := h.later cw
  have hn0 : c.nm.size ≤ 9223372036854775807 := by have := h.nm; unfold maxLen at this; omega
  have hn1 := h.wk.1
  have hn2 := h.hol.1
  have hn3 : o.tx.size ≤ 9223372036854775807 := by unfold maxLen at hs; omega
  clear h
  go_enter Try.func3, Try.ntmps3
  go_upto_region 1 with fail
  generalize ((w.alloc (.cells #[.int .i64 (o).id, .int .i64 (o).fr, .int .i64 (o).too, .int .i64 (o).am, .int .i64 (o).day, .int .i64 (o).ev, .int .i64 (o).an, .int .i64 (o).un, .int .i64 (o).tr, .string (o).tx] 23)).alloc (.cells #[.string c.nm, .slice wa c.wk.length wc, .slice ha c.hol.length hc] 26)) = w1 at *
  have cw1 := cw
  clear cw
  go_wp2_with (refine wpList_load_row rfl 26 _ rfl _ rfl _ _ _ _ kc Try.underlying26 rfl (by kernel_rfl) ?_)
  refine (light_any c wa ha wc hc _ hn0 hn1 hn2).mono ?_
  rintro e w2 ⟨b, rfl, hb⟩
  replace k0 := k0.later hb
  replace kc := kc.later hb
  replace hi := hi.later hb
  have cw2 := bl2 hb cw1
  clear hb cw1
  cases b
  · go_wp2_with fail
    go_ret
    exact ⟨rfl, cw2⟩
  · have l9 := k0.c9
    by_cases h2 : 200 < o.tx.size
    · go_wp2_with fail
      go_ret
      exact ⟨rfl, cw2⟩
    · go_upto_region 3 with fail
      clear l9
      go_wp2_with (first | (refine wpList_load_row rfl 23 _ rfl _ rfl _ _ _ _ k0 Try.underlying23 rfl (by kernel_rfl) ?_) | (refine wpList_load_row rfl 26 _ rfl _ rfl _ _ _ _ kc Try.underlying26 rfl (by kernel_rfl) ?_))
      refine (next_any o c wa ha wc hc _ hi hs).mono ?_
      rintro e w3 ⟨rfl, hb⟩
      replace k0 := k0.later hb
      replace kc := kc.later hb
      replace hi := hi.later hb
      have cw3 := bl2 hb cw2
      clear hb cw2
      go_wp2_with (first | (refine wpList_load_row rfl 23 _ rfl _ rfl _ _ _ _ k0 Try.underlying23 rfl (by kernel_rfl) ?_) | (refine wpList_load_row rfl 26 _ rfl _ rfl _ _ _ _ kc Try.underlying26 rfl (by kernel_rfl) ?_))
      refine (rnext_any o c wa ha wc hc _ hi hs).mono ?_
      rintro e w4 ⟨rfl, hb⟩
      replace k0 := k0.later hb
      replace kc := kc.later hb
      replace hi := hi.later hb
      have cw4 := bl2 hb cw3
      clear hb cw3
      have HK1 := Lib.hid (fun W => odchk_any o W hs)
      have HK2 := Lib.hid (fun W => rodchk_any o W hs)
      generalize nxV o c = v at *
      generalize nxE o c = ee at *
      generalize odE o = E at *
      have g1 : (E == E) = true := beq_self_eq_true _
      have g2 : (v == v) = true := beq_self_eq_true _
      have g3 : (ee == ee) = true := beq_self_eq_true _
      go_upto_region 5 with fail
      have hS0 : SK w4 w.heap.size #[.int .i64 (o).id, .int .i64 (o).fr, .int .i64 (o).too, .int .i64 (o).am, .int .i64 (o).day, .int .i64 (o).ev, .int .i64 (o).an, .int .i64 (o).un, .int .i64 (o).tr, .string (o).tx] 23 (w.heap.size + 1) #[.string c.nm, .slice wa c.wk.length wc, .slice ha c.hol.length hc] 26 w4.drew := ⟨⟨k0.drew, kc.drew⟩, (Below.refl _ _).drew⟩
      refine wp_region_held_drew (S := SK w4 w.heap.size #[.int .i64 (o).id, .int .i64 (o).fr, .int .i64 (o).too, .int .i64 (o).am, .int .i64 (o).day, .int .i64 (o).ev, .int .i64 (o).an, .int .i64 (o).un, .int .i64 (o).tr, .string (o).tx] 23 (w.heap.size + 1) #[.string c.nm, .slice wa c.wk.length wc, .slice ha c.hol.length hc] 26) (by kernel_rfl) hS0 (fun hS => ?_)
      clear hS0 k0 kc hi
      refine take_at 0 (by decide) (by kernel_rfl) (by kernel_rfl) (by kernel_rfl) (fun _ _ _ h => h) hS (yields_load_row (by rfl) 23 (.tmp 2) rfl w.heap.size rfl _ _ _ _ (fun W hW => hW.1.1) Try.underlying23 rfl (by kernel_rfl)) ?_
      simp only [List.getElem_cons_zero, List.getElem_cons_succ, Act.put, List.setIfInBounds_toArray, List.set_cons_zero, List.set_cons_succ]
      refine take_at 2 (by decide) (by kernel_rfl) (by kernel_rfl) (by kernel_rfl) (fun _ _ _ h => h) hS (yields_load_row (by rfl) 23 (.tmp 2) rfl w.heap.size rfl _ _ _ _ (fun W hW => hW.1.1) Try.underlying23 rfl (by kernel_rfl)) ?_
      simp only [List.getElem_cons_zero, List.getElem_cons_succ, Act.put, List.setIfInBounds_toArray, List.set_cons_zero, List.set_cons_succ]
      refine call_at 1 (by decide) (Pi := (fun v _ => v = .int .i64 E)) (by kernel_rfl) (by rfl) (by simp only [List.getElem_cons_zero, List.getElem_cons_succ]; go_simp; first | done | rfl | exact ⟨rfl, rfl⟩) (call_one SK.mono hS (HK1.out _)) ?_
      clear hS
      rintro w5 u hS rfl
      simp only [List.getElem_cons_zero, List.getElem_cons_succ, Act.put, List.setIfInBounds_toArray, List.set_cons_zero, List.set_cons_succ]
      refine call_at 3 (by decide) (Pi := (fun v _ => v = .int .i64 E)) (by kernel_rfl) (by rfl) (by simp only [List.getElem_cons_zero, List.getElem_cons_succ]; go_simp; first | done | rfl | exact ⟨rfl, rfl⟩) (call_one SK.mono hS (HK2.out _)) ?_
      clear hS
      rintro w6 u hS rfl
      simp only [List.getElem_cons_zero, List.getElem_cons_succ, Act.put, List.setIfInBounds_toArray, List.set_cons_zero, List.set_cons_succ]
      refine take_at 4 (by decide) (v := ?_) (by kernel_rfl) (by kernel_rfl) (by kernel_rfl) (fun _ _ _ h => h) hS (Or.inl ⟨by rfl, ?_⟩) ?_
      rotate_left
      · intro W hW
        skip
        clear hW
        simp only [List.getElem_cons_zero, List.getElem_cons_succ]
        go_simp
        first | done | with_reducible rfl
      simp only [List.getElem_cons_zero, List.getElem_cons_succ, Act.put, List.setIfInBounds_toArray, List.set_cons_zero, List.set_cons_succ]
      refine take_at 5 (by decide) (v := ?_) (by kernel_rfl) (by kernel_rfl) (by kernel_rfl) (fun _ _ _ h => h) hS (Or.inl ⟨by rfl, ?_⟩) ?_
      rotate_left
      · intro W hW
        skip
        clear hW
        simp only [List.getElem_cons_zero, List.getElem_cons_succ]
        go_simp
        first | done | with_reducible rfl
      simp only [List.getElem_cons_zero, List.getElem_cons_succ, Act.put, List.setIfInBounds_toArray, List.set_cons_zero, List.set_cons_succ]
      refine take_at 6 (by decide) (v := ?_) (by kernel_rfl) (by kernel_rfl) (by kernel_rfl) (fun _ _ _ h => h) hS (Or.inl ⟨by rfl, ?_⟩) ?_
      rotate_left
      · intro W hW
        skip
        clear hW
        simp only [List.getElem_cons_zero, List.getElem_cons_succ]
        go_simp
        first | done | with_reducible rfl
      simp only [List.getElem_cons_zero, List.getElem_cons_succ, Act.put, List.setIfInBounds_toArray, List.set_cons_zero, List.set_cons_succ]
      refine take_at 7 (by decide) (v := ?_) (by kernel_rfl) (by kernel_rfl) (by kernel_rfl) (fun _ _ _ h => h) hS (Or.inl ⟨by rfl, ?_⟩) ?_
      rotate_left
      · intro W hW
        skip
        clear hW
        simp only [List.getElem_cons_zero, List.getElem_cons_succ]
        go_simp
        first | done | with_reducible rfl
      simp only [List.getElem_cons_zero, List.getElem_cons_succ, Act.put, List.setIfInBounds_toArray, List.set_cons_zero, List.set_cons_succ]
      refine take_at 8 (by decide) (v := ?_) (by kernel_rfl) (by kernel_rfl) (by kernel_rfl) (fun _ _ _ h => h) hS (Or.inl ⟨by rfl, ?_⟩) ?_
      rotate_left
      · intro W hW
        skip
        clear hW
        simp only [List.getElem_cons_zero, List.getElem_cons_succ]
        go_simp
        first | done | with_reducible rfl
      simp only [List.getElem_cons_zero, List.getElem_cons_succ, Act.put, List.setIfInBounds_toArray, List.set_cons_zero, List.set_cons_succ]
      refine take_at 9 (by decide) (v := ?_) (by kernel_rfl) (by kernel_rfl) (by kernel_rfl) (fun _ _ _ h => h) hS (Or.inl ⟨by rfl, ?_⟩) ?_
      rotate_left
      · intro W hW
        skip
        clear hW
        simp only [List.getElem_cons_zero, List.getElem_cons_succ]
        go_simp
        first | done | with_reducible rfl
      simp only [List.getElem_cons_zero, List.getElem_cons_succ, Act.put, List.setIfInBounds_toArray, List.set_cons_zero, List.set_cons_succ]
      refine take_at 10 (by decide) (v := ?_) (by kernel_rfl) (by kernel_rfl) (by kernel_rfl) (fun _ _ _ h => h) hS (Or.inl ⟨by rfl, ?_⟩) ?_
      rotate_left
      · intro W hW
        skip
        clear hW
        simp only [List.getElem_cons_zero, List.getElem_cons_succ]
        go_simp
        first | done | with_reducible rfl
      simp only [List.getElem_cons_zero, List.getElem_cons_succ, Act.put, List.setIfInBounds_toArray, List.set_cons_zero, List.set_cons_succ]
      refine take_at 11 (by decide) (v := ?_) (by kernel_rfl) (by kernel_rfl) (by kernel_rfl) (fun _ _ _ h => h) hS (Or.inl ⟨by rfl, ?_⟩) ?_
      rotate_left
      · intro W hW
        skip
        clear hW
        simp only [List.getElem_cons_zero, List.getElem_cons_succ]
        go_simp
        first | done | with_reducible rfl
      simp only [List.getElem_cons_zero, List.getElem_cons_succ, Act.put, List.setIfInBounds_toArray, List.set_cons_zero, List.set_cons_succ]
      refine take_at 12 (by decide) (v := ?_) (by kernel_rfl) (by kernel_rfl) (by kernel_rfl) (fun _ _ _ h => h) hS (Or.inl ⟨by rfl, ?_⟩) ?_
      rotate_left
      · intro W hW
        skip
        clear hW
        simp only [List.getElem_cons_zero, List.getElem_cons_succ]
        go_simp
        first | done | with_reducible rfl
      simp only [List.getElem_cons_zero, List.getElem_cons_succ, Act.put, List.setIfInBounds_toArray, List.set_cons_zero, List.set_cons_succ]
      refine take_at 13 (by decide) (v := ?_) (by kernel_rfl) (by kernel_rfl) (by kernel_rfl) (fun _ _ _ h => h) hS (Or.inl ⟨by rfl, ?_⟩) ?_
      rotate_left
      · intro W hW
        skip
        clear hW
        simp only [List.getElem_cons_zero, List.getElem_cons_succ]
        go_simp
        first | done | with_reducible rfl
      simp only [List.getElem_cons_zero, List.getElem_cons_succ, Act.put, List.setIfInBounds_toArray, List.set_cons_zero, List.set_cons_succ]
      refine take_at 14 (by decide) (v := ?_) (by kernel_rfl) (by kernel_rfl) (by kernel_rfl) (fun _ _ _ h => h) hS (Or.inl ⟨by rfl, ?_⟩) ?_
      rotate_left
      · intro W hW
        skip
        clear hW
        simp only [List.getElem_cons_zero, List.getElem_cons_succ]
        go_simp
        first | done | with_reducible rfl
      simp only [List.getElem_cons_zero, List.getElem_cons_succ, Act.put, List.setIfInBounds_toArray, List.set_cons_zero, List.set_cons_succ]
      refine take_at 15 (by decide) (v := ?_) (by kernel_rfl) (by kernel_rfl) (by kernel_rfl) (fun _ _ _ h => h) hS (Or.inl ⟨by rfl, ?_⟩) ?_
      rotate_left
      · intro W hW
        skip
        clear hW
        simp only [List.getElem_cons_zero, List.getElem_cons_succ]
        go_simp
        first | done | with_reducible rfl
      simp only [List.getElem_cons_zero, List.getElem_cons_succ, Act.put, List.setIfInBounds_toArray, List.set_cons_zero, List.set_cons_succ]
      refine call_at 16 (by decide) (Pi := (fun v _ => v = .bool true)) (by kernel_rfl) (by rfl) (by simp only [List.getElem_cons_zero, List.getElem_cons_succ]; go_simp; first | done | rfl | exact ⟨rfl, rfl⟩) (call_one SK.mono hS (live_any _)) ?_
      clear hS
      rintro w7 u hS rfl
      simp only [List.getElem_cons_zero, List.getElem_cons_succ, Act.put, List.setIfInBounds_toArray, List.set_cons_zero, List.set_cons_succ]
      refine take_at 17 (by decide) (v := ?_) (by kernel_rfl) (by kernel_rfl) (by kernel_rfl) (fun _ _ _ h => h) hS (Or.inl ⟨by rfl, ?_⟩) ?_
      rotate_left
      · intro W hW
        skip
        clear hW
        simp only [List.getElem_cons_zero, List.getElem_cons_succ]
        go_simp
        first | done | with_reducible rfl
      simp only [List.getElem_cons_zero, List.getElem_cons_succ, Act.put, List.setIfInBounds_toArray, List.set_cons_zero, List.set_cons_succ]
      refine take_at 18 (by decide) (v := ?_) (by kernel_rfl) (by kernel_rfl) (by kernel_rfl) (fun _ _ _ h => h) hS (Or.inl ⟨by rfl, ?_⟩) ?_
      rotate_left
      · intro W hW
        skip
        clear hW
        simp only [List.getElem_cons_zero, List.getElem_cons_succ]
        go_simp
        first | done | with_reducible rfl
      simp only [List.getElem_cons_zero, List.getElem_cons_succ, Act.put, List.setIfInBounds_toArray, List.set_cons_zero, List.set_cons_succ]
      refine wpAnyH_done (by kernel_rfl) ?_ _
      go_wp2_with fail
      go_ret
      exact ⟨rfl, bl2 hS.2 cw4⟩
theorem row_blk {W : World} {g : Nat} {x : Od} {t : TypeId} (h : Bk.Blk W g #[.int .i64 (x).id, .int .i64 (x).fr, .int .i64 (x).too, .int .i64 (x).am, .int .i64 (x).day, .int .i64 (x).ev, .int .i64 (x).an, .int .i64 (x).un, .int .i64 (x).tr, .string (x).tx] t) : RowIn oenc W (some ⟨g, 0, none⟩) [x] := fun _ => ⟨g, 0, rfl, fun j u hj => by
  rw [Nat.zero_add, h.cell]
  simpa [flat, oenc] using hj⟩
/-- Where StandingGivesUp stands. -/
def GvR (w : World) (o : Od) (c : Cl) (wa ha : Option Addr) (wc hc : Nat) (g : Nat) (s5 s6 s7 : Value) (W : World) : Prop := ∃ (n : Nat) (l : List Od) (a : Option Addr) (cp : Nat), n + g = 3 ∧ s5 = .slice a l.length cp ∧ s6 = .int .i64 (o.tr + n) ∧ s7 = .int .i64 n ∧ RowIn oenc W a l ∧ (l = [] ∨ ∃ x, l = [x] ∧ Giv o n x) ∧
  Bk.Blk W w.heap.size #[.int .i64 (o).id, .int .i64 (o).fr, .int .i64 (o).too, .int .i64 (o).am, .int .i64 (o).day, .int .i64 (o).ev, .int .i64 (o).an, .int .i64 (o).un, .int .i64 (o).tr, .string (o).tx] 23 ∧ Bk.Blk W (w.heap.size + 1) #[.string c.nm, .slice wa c.wk.length wc, .slice ha c.hol.length hc] 26 ∧ CalIn W c wa ha ∧ Below w.heap.size w W
theorem gv_done {o x : Od} {n : Nat} {c : Cl} (h : Giv o n x) (hx : x.day = o.day) : dnE [x] o.id o.day = 0 ∧ ((x.tr < 2 ∧ dnR [x] o.id o.day false c = [{ x with tr := x.tr + 1 }] ∧ Giv o (n + 1) { x with tr := x.tr + 1 } ∧ x.tr = o.tr + n) ∨ (¬ x.tr < 2 ∧ dnR [x] o.id o.day false c = [{ x with tr := 0, day := nxV x c }] ∧ Giv o (n + 1) { x with tr := 0, day := nxV x c } ∧ o.day < nxV x c) ∨ dnR [x] o.id o.day false c = []) := by
  have e : dnE [x] o.id o.day = 0 := by rw [← h.id, ← hx]; exact dnE_one x
  refine ⟨e, ?_⟩
  rw [dnR_yes e, ← h.id, dnL_one]
  by_cases h1 : x.tr < 2
  · rw [if_pos ⟨rfl, h1⟩]
    refine .inl ⟨h1, rfl, h.try_ hx h1, ?_⟩
    rcases h.at_ with ha | ha
    · exact ha.2.1
    · omega
  · rw [if_neg (fun hh => h1 hh.2)]
    by_cases h2 : nxE x c = 0
    · rw [if_pos h2]
      have := h.step hx h2
      exact .inr (.inl ⟨h1, rfl, this.1, this.2⟩)
    · rw [if_neg h2]
      exact .inr (.inr rfl)
theorem du_none {o : Od} {l : List Od} (h : l = [] ∨ ∃ x, l = [x] ∧ o.day < x.day) : duL l o.day = [] := by
  rcases h with rfl | ⟨x, rfl, hx⟩
  · rfl
  · unfold duL
    simp [hx]
set_option maxHeartbeats 32000000 in
theorem gives_walk (o : Od) (c : Cl) (wa ha : Option Addr) (wc hc : Nat) (hs : o.tx.size ≤ maxLen) (w : World) (h : CalIn w c wa ha) : Calls Try.prog 6 #[(.agg #[.int .i64 (o).id, .int .i64 (o).fr, .int .i64 (o).too, .int .i64 (o).am, .int .i64 (o).day, .int .i64 (o).ev, .int .i64 (o).an, .int .i64 (o).un, .int .i64 (o).tr, .string (o).tx]), (.agg #[.string (c).nm, .slice wa (c).wk.length wc, .slice ha (c).hol.length hc])] w fun e w' => e = .returned (.bool true) ∧ Below w.heap.size w w' := by
  have cw : Below w.heap.size w ((w.alloc (.cells #[.int .i64 (o).id, .int .i64 (o).fr, .int .i64 (o).too, .int .i64 (o).am, .int .i64 (o).day, .int .i64 (o).ev, .int .i64 (o).an, .int .i64 (o).un, .int .i64 (o).tr, .string (o).tx] 23)).alloc (.cells #[.string c.nm, .slice wa c.wk.length wc, .slice ha c.hol.length hc] 26)) := ((Below.refl _ _).alloc (Nat.le_refl _) _).alloc (by simp) _
  have k0 : Bk.Blk ((w.alloc (.cells #[.int .i64 (o).id, .int .i64 (o).fr, .int .i64 (o).too, .int .i64 (o).am, .int .i64 (o).day, .int .i64 (o).ev, .int .i64 (o).an, .int .i64 (o).un, .int .i64 (o).tr, .string (o).tx] 23)).alloc (.cells #[.string c.nm, .slice wa c.wk.length wc, .slice ha c.hol.length hc] 26)) w.heap.size #[.int .i64 (o).id, .int .i64 (o).fr, .int .i64 (o).too, .int .i64 (o).am, .int .i64 (o).day, .int .i64 (o).ev, .int .i64 (o).an, .int .i64 (o).un, .int .i64 (o).tr, .string (o).tx] 23 := Bk.Blk.nw20
  have kc : Bk.Blk ((w.alloc (.cells #[.int .i64 (o).id, .int .i64 (o).fr, .int .i64 (o).too, .int .i64 (o).am, .int .i64 (o).day, .int .i64 (o).ev, .int .i64 (o).an, .int .i64 (o).un, .int .i64 (o).tr, .string (o).tx] 23)).alloc (.cells #[.string c.nm, .slice wa c.wk.length wc, .slice ha c.hol.length hc] 26)) (w.heap.size + 1) #[.string c.nm, .slice wa c.wk.length wc, .slice ha c.hol.length hc] 26 := Bk.Blk.nw21
  have hi := h.later cw
  have hn0 : c.nm.size ≤ 9223372036854775807 := by have := h.nm; unfold maxLen at this; omega
  have hn1 := h.wk.1
  have hn2 := h.hol.1
  have hn3 : o.tx.size ≤ 9223372036854775807 := by unfold maxLen at hs; omega
  clear h
  go_enter Try.func6, Try.ntmps6
  go_upto_region 1 with fail
  generalize ((w.alloc (.cells #[.int .i64 (o).id, .int .i64 (o).fr, .int .i64 (o).too, .int .i64 (o).am, .int .i64 (o).day, .int .i64 (o).ev, .int .i64 (o).an, .int .i64 (o).un, .int .i64 (o).tr, .string (o).tx] 23)).alloc (.cells #[.string c.nm, .slice wa c.wk.length wc, .slice ha c.hol.length hc] 26)) = w1 at *
  have cw1 := cw
  clear cw
  go_wp2_with (refine wpList_load_row rfl 26 _ rfl _ rfl _ _ _ _ kc Try.underlying26 rfl (by kernel_rfl) ?_)
  refine (light_any c wa ha wc hc _ hn0 hn1 hn2).mono ?_
  rintro e w2 ⟨b, rfl, hb⟩
  replace k0 := k0.later hb
  replace kc := kc.later hb
  replace hi := hi.later hb
  have cw2 := bl2 hb cw1
  clear hb cw1
  cases b
  · go_wp2_with fail
    go_ret
    exact ⟨rfl, cw2⟩
  · have l9 := k0.c9
    by_cases h2 : 200 < o.tx.size
    · go_wp2_with fail
      go_ret
      exact ⟨rfl, cw2⟩
    · have g9 : decide (200 < o.tx.size) = false := decide_eq_false h2
      have g9b : decide ((200 : Int) < (o.tx.size : Int)) = false := decide_eq_false (by omega)
      go_wp2_with (refine load_guarded 23 _ rfl rfl _ rfl _ _ _ _ k0 Try.underlying23 rfl (by kernel_rfl) ?_)
      clear g9 g9b
      refine (odchk_any o _ hs).mono ?_
      rintro e w3 ⟨rfl, hb⟩
      replace k0 := k0.later hb
      replace kc := kc.later hb
      replace hi := hi.later hb
      have cw3 := bl2 hb cw2
      clear hb cw2
      by_cases hE : odE o = 0
      · have ho := ok_of hE
        have g1 : (odE o != 0) = false := by rw [hE]; rfl
        clear hE
        generalize odE o = E at g1 ⊢
        have HO := Lib.hid ho
        clear l9
        go_upto_region 4 with (refine wpList_load_row rfl 23 _ rfl _ rfl _ _ _ _ k0 Try.underlying23 rfl (by kernel_rfl) ?_)
        have hb4 : Below w3.heap.size w3 (w3.alloc (.cells #[.int .i64 (o).id, .int .i64 (o).fr, .int .i64 (o).too, .int .i64 (o).am, .int .i64 (o).day, .int .i64 (o).ev, .int .i64 (o).an, .int .i64 (o).un, .int .i64 (o).tr, .string (o).tx] 23)) := (Below.refl _ _).alloc (Nat.le_refl _) _
        have hr : RowIn oenc (w3.alloc (.cells #[.int .i64 (o).id, .int .i64 (o).fr, .int .i64 (o).too, .int .i64 (o).am, .int .i64 (o).day, .int .i64 (o).ev, .int .i64 (o).an, .int .i64 (o).un, .int .i64 (o).tr, .string (o).tx] 23)) (some ⟨w3.heap.size, 0, none⟩) [o] := row_blk Bk.Blk.nw10
        replace k0 := k0.later hb4
        replace kc := kc.later hb4
        replace hi := hi.later hb4
        have cw4 := bl2 hb4 cw3
        clear hb4 cw3
        generalize (w3.alloc (.cells #[.int .i64 (o).id, .int .i64 (o).fr, .int .i64 (o).too, .int .i64 (o).am, .int .i64 (o).day, .int .i64 (o).ev, .int .i64 (o).an, .int .i64 (o).un, .int .i64 (o).tr, .string (o).tx] 23)) = w4 at *
        generalize w3.heap.size = g3 at *
        have l8 := k0.c8
        go_upto_region 6 with fail
        clear l8
        go_loopg [5, 6, 7] 3 (GvR w o c wa ha wc hc)
        case atStart => exact ⟨0, [o], _, _, by omega, rfl, by simp, rfl, hr, .inr ⟨o, rfl, Giv.start HO.out⟩, k0, kc, hi, cw4⟩
        case round =>
          clear k0 kc hi hr cw4
          obtain ⟨n, l, a, cp, hn, rfl, rfl, rfl, hr, hl, k0, kc, hi, cwr⟩ := hrel
          have HO1 := HO.out
          have ho8 := HO1.tr
          have l4 := k0.c4
          rcases hl with rfl | ⟨x, rfl, hg⟩
          · have hn3 : n < 3 ∨ n = 3 := by omega
            rcases hn3 with hn3 | rfl
            · have g3 : decide (n < 3) = true := decide_eq_true hn3
              have g3b : decide ((n : Int) < 3) = true := decide_eq_true (by omega)
              go_upto_region 6 with fail
              refine Reg.region_quiet (by kernel_rfl) (by kernel_rfl) ?_
              iterate 16 (first | go_big_quiet_skip | (go_big_quiet_want; (first | (go_big_quiet_op; go_big_quiet_on) | (apply Reg.quiet_run; (intro W hW; (have q0 := hW.cell l4); go_simp; (first | done | rfl | exact ⟨rfl, rfl⟩ )); (simp only [Act.put, List.setIfInBounds_toArray, List.set_cons_zero, List.set_cons_succ]; go_big_quiet_on)) | (apply Reg.quiet_call; (intro W hW; go_simp; (first | done | rfl | exact ⟨rfl, rfl⟩)); (intro W hW; (first | fail)); (simp only [Act.put, List.setIfInBounds_toArray, List.set_cons_zero, List.set_cons_succ]; go_big_quiet_on)))))
              refine wpQuiet_nil ?_
              intro w5 hW
              replace k0 := k0.later hW
              replace hr := hr.later hW
              have cw5 := bl2 hW cwr
              clear hW cwr
              have HD := Lib.hid (du_none (o := o) (l := []) (.inl rfl))
              have l4 := k0.c4
              go_wp2_with fail
              clear l4
              refine (due_any a cp [] o.day _ hr (by simp)).mono ?_
              rintro e w9 ⟨a9, c9, rfl, _, hb⟩
              replace k0 := k0.later hb
              have cw9 := bl2 hb cw5
              clear hb cw5
              rw [HD.out]
              clear HD
              go_wp2_with fail
              refine (live_any _).mono ?_
              rintro e wl ⟨rfl, hb⟩
              replace k0 := k0.later hb
              have cwl := bl2 hb cw9
              clear hb cw9
              go_wp2_with fail
              go_ret
              exact ⟨rfl, cwl⟩
            · go_upto_region 6 with fail
              refine Reg.region_quiet (by kernel_rfl) (by kernel_rfl) ?_
              iterate 16 (first | go_big_quiet_skip | (go_big_quiet_want; (first | (go_big_quiet_op; go_big_quiet_on) | (apply Reg.quiet_run; (intro W hW; (have q0 := hW.cell l4); go_simp; (first | done | rfl | exact ⟨rfl, rfl⟩ )); (simp only [Act.put, List.setIfInBounds_toArray, List.set_cons_zero, List.set_cons_succ]; go_big_quiet_on)) | (apply Reg.quiet_call; (intro W hW; go_simp; (first | done | rfl | exact ⟨rfl, rfl⟩)); (intro W hW; (first | fail)); (simp only [Act.put, List.setIfInBounds_toArray, List.set_cons_zero, List.set_cons_succ]; go_big_quiet_on)))))
              refine wpQuiet_nil ?_
              intro w5 hW
              replace k0 := k0.later hW
              replace hr := hr.later hW
              have cw5 := bl2 hW cwr
              clear hW cwr
              have HD := Lib.hid (du_none (o := o) (l := []) (.inl rfl))
              have l4 := k0.c4
              go_wp2_with fail
              clear l4
              refine (due_any a cp [] o.day _ hr (by simp)).mono ?_
              rintro e w9 ⟨a9, c9, rfl, _, hb⟩
              replace k0 := k0.later hb
              have cw9 := bl2 hb cw5
              clear hb cw5
              rw [HD.out]
              clear HD
              go_wp2_with fail
              refine (live_any _).mono ?_
              rintro e wl ⟨rfl, hb⟩
              replace k0 := k0.later hb
              have cwl := bl2 hb cw9
              clear hb cw9
              go_wp2_with fail
              go_ret
              exact ⟨rfl, cwl⟩
          · have hn3 : n < 3 ∨ n = 3 := by omega
            rcases hn3 with hn3 | rfl
            · have g3 : decide (n < 3) = true := decide_eq_true hn3
              have g3b : decide ((n : Int) < 3) = true := decide_eq_true (by omega)
              obtain ⟨b, off, rfl, hq⟩ := row_at hr (by simp)
              have e4 : wr.cell? ⟨b, off + 4, none⟩ = some (.int .i64 x.day) := hq 0 (by simp) 4 _ rfl
              clear hq
              by_cases hd : x.day ≤ o.day
              · have gd : decide (x.day ≤ o.day) = true := decide_eq_true hd
                have hx : x.day = o.day := by rcases hg.at_ with h | h; exact h.1; omega
                have HG := Lib.hid (gv_done (c := c) hg hx)
                have hR : ∀ y ∈ [x], Ok y := fun y hy => by rw [List.mem_singleton.1 hy]; exact hg.ok
                clear hx
                go_upto_region 6 with fail
                refine Reg.region_quiet (by kernel_rfl) (by kernel_rfl) ?_
                iterate 16 (first | go_big_quiet_skip | (go_big_quiet_want; (first | (go_big_quiet_op; go_big_quiet_on) | (apply Reg.quiet_run; (intro W hW; (have q0 := hW.cell l4; have q1 := hW.cell e4); go_simp; (first | done | rfl | exact ⟨rfl, rfl⟩ )); (simp only [Act.put, List.setIfInBounds_toArray, List.set_cons_zero, List.set_cons_succ]; go_big_quiet_on)) | (apply Reg.quiet_call; (intro W hW; go_simp; (first | done | rfl | exact ⟨rfl, rfl⟩)); (intro W hW; (first | fail)); (simp only [Act.put, List.setIfInBounds_toArray, List.set_cons_zero, List.set_cons_succ]; go_big_quiet_on)))))
                refine wpQuiet_nil ?_
                intro w5 hW
                replace k0 := k0.later hW
                replace kc := kc.later hW
                replace hi := hi.later hW
                replace hr := hr.later hW
                have cw5 := bl2 hW cwr
                clear hW cwr
                clear l4 e4
                have l0 := k0.c0
                have l4 := k0.c4
                go_wp2_with (refine wpList_load_row rfl 26 _ rfl _ rfl _ _ _ _ kc Try.underlying26 rfl (by kernel_rfl) ?_)
                clear l0 l4
                refine (done_any _ cp [x] o.id o.day false c wa ha wc hc _ hr (by simp) hR hi).mono ?_
                rintro e w6 ⟨a2, c2, rfl, hr2, hb⟩
                replace k0 := k0.later hb
                replace kc := kc.later hb
                replace hi := hi.later hb
                have cw6 := bl2 hb cw5
                clear hb cw5
                obtain ⟨hE0, hways⟩ := HG.out
                rw [hE0]
                clear hE0 HG hr
                generalize dnR [x] o.id o.day false c = m at *
                rcases hways with ⟨ht, rfl, hg2, hxt⟩ | ⟨ht, rfl, hg2, hlt⟩ | rfl
                · obtain ⟨b2, off2, ha2, hq⟩ := row_at hr2 (by simp)
                  subst ha2
                  have e4 : w6.cell? ⟨b2, off2 + 4, none⟩ = some (.int .i64 x.day) := hq 0 (by simp) 4 _ rfl
                  have e8 : w6.cell? ⟨b2, off2 + 8, none⟩ = some (.int .i64 (x.tr + 1)) := hq 0 (by simp) 8 _ rfl
                  clear hq
                  have l4 := k0.c4
                  have hw1 : IntKind.i64.wrap (o.tr + (n : Int) + 1) = o.tr + (n : Int) + 1 := by rw [IntKind.wrap_i64]; omega
                  have hw2 : wrap64 (o.tr + (n : Int) + 1) = o.tr + (n : Int) + 1 := by unfold wrap64; omega
                  have hxd : x.day = o.day := by rcases hg.at_ with h | h; exact h.1; omega
                  rw [hxd] at e4
                  rw [hxt] at e8
                  have HXX := Lib.hid (And.intro hxd hxt)
                  clear hxd hxt ht hg
                  go_upto_region 9 with fail
                  refine Reg.region_quiet (by kernel_rfl) (by kernel_rfl) ?_
                  iterate 30 (first | go_big_quiet_skip | (go_big_quiet_want; (first | (go_big_quiet_op; go_big_quiet_on) | (apply Reg.quiet_run; (intro W hW; (have q0 := hW.cell l4; have q1 := hW.cell e4; have q2 := hW.cell e8); go_simp; (first | done | rfl | exact ⟨rfl, rfl⟩ )); (simp only [Act.put, List.setIfInBounds_toArray, List.set_cons_zero, List.set_cons_succ]; go_big_quiet_on)) | (apply Reg.quiet_call; (intro W hW; go_simp; (first | done | rfl | exact ⟨rfl, rfl⟩)); (intro W hW; (first | fail)); (simp only [Act.put, List.setIfInBounds_toArray, List.set_cons_zero, List.set_cons_succ]; go_big_quiet_on)))))
                  refine wpQuiet_nil ?_
                  intro w7 hW
                  replace k0 := k0.later hW
                  replace kc := kc.later hW
                  replace hi := hi.later hW
                  replace hr2 := hr2.later hW
                  have cw7 := bl2 hW cw6
                  clear hW cw6
                  clear l4 e4 e8
                  go_wp2_with fail
                  go_roundg (gk - 1)
                  case measure => omega
                  case rel => exact ⟨n + 1, [{ x with tr := x.tr + 1 }], _, c2, by omega, rfl, by simp only [Int.natCast_add]; first | rfl | (congr 1; omega), by go_num, hr2, .inr ⟨_, rfl, hg2⟩, k0, kc, hi, cw7⟩
                · obtain ⟨b2, off2, ha2, hq⟩ := row_at hr2 (by simp)
                  subst ha2
                  have e4 : w6.cell? ⟨b2, off2 + 4, none⟩ = some (.int .i64 (nxV x c)) := hq 0 (by simp) 4 _ rfl
                  have e8 : w6.cell? ⟨b2, off2 + 8, none⟩ = some (.int .i64 0) := hq 0 (by simp) 8 _ rfl
                  clear hq
                  have l4 := k0.c4
                  have hw1 : IntKind.i64.wrap (o.tr + (n : Int) + 1) = o.tr + (n : Int) + 1 := by rw [IntKind.wrap_i64]; omega
                  have hw2 : wrap64 (o.tr + (n : Int) + 1) = o.tr + (n : Int) + 1 := by unfold wrap64; omega
                  generalize hnv : nxV x c = nv at *
                  have hne : (nv == o.day) = false := beq_eq_false_iff_ne.2 (by omega)
                  clear ht hg hlt hnv
                  go_upto_region 9 with fail
                  refine Reg.region_quiet (by kernel_rfl) (by kernel_rfl) ?_
                  iterate 30 (first | go_big_quiet_skip | (go_big_quiet_want; (first | (go_big_quiet_op; go_big_quiet_on) | (apply Reg.quiet_run; (intro W hW; (have q0 := hW.cell l4; have q1 := hW.cell e4; have q2 := hW.cell e8); go_simp; (first | done | rfl | exact ⟨rfl, rfl⟩ )); (simp only [Act.put, List.setIfInBounds_toArray, List.set_cons_zero, List.set_cons_succ]; go_big_quiet_on)) | (apply Reg.quiet_call; (intro W hW; go_simp; (first | done | rfl | exact ⟨rfl, rfl⟩)); (intro W hW; (first | fail)); (simp only [Act.put, List.setIfInBounds_toArray, List.set_cons_zero, List.set_cons_succ]; go_big_quiet_on)))))
                  refine wpQuiet_nil ?_
                  intro w7 hW
                  replace k0 := k0.later hW
                  replace kc := kc.later hW
                  replace hi := hi.later hW
                  replace hr2 := hr2.later hW
                  have cw7 := bl2 hW cw6
                  clear hW cw6
                  clear l4 e4 e8
                  go_wp2_with fail
                  go_roundg (gk - 1)
                  case measure => omega
                  case rel => exact ⟨n + 1, [{ x with tr := 0, day := nv }], _, c2, by omega, rfl, by simp only [Int.natCast_add]; first | rfl | (congr 1; omega), by go_num, hr2, .inr ⟨_, rfl, hg2⟩, k0, kc, hi, cw7⟩
                · have l4 := k0.c4
                  have hw1 : IntKind.i64.wrap (o.tr + (n : Int) + 1) = o.tr + (n : Int) + 1 := by rw [IntKind.wrap_i64]; omega
                  have hw2 : wrap64 (o.tr + (n : Int) + 1) = o.tr + (n : Int) + 1 := by unfold wrap64; omega
                  clear hg
                  go_upto_region 9 with fail
                  refine Reg.region_quiet (by kernel_rfl) (by kernel_rfl) ?_
                  iterate 30 (first | go_big_quiet_skip | (go_big_quiet_want; (first | (go_big_quiet_op; go_big_quiet_on) | (apply Reg.quiet_run; (intro W hW; (have q0 := hW.cell l4); go_simp; (first | done | rfl | exact ⟨rfl, rfl⟩ )); (simp only [Act.put, List.setIfInBounds_toArray, List.set_cons_zero, List.set_cons_succ]; go_big_quiet_on)) | (apply Reg.quiet_call; (intro W hW; go_simp; (first | done | rfl | exact ⟨rfl, rfl⟩)); (intro W hW; (first | fail)); (simp only [Act.put, List.setIfInBounds_toArray, List.set_cons_zero, List.set_cons_succ]; go_big_quiet_on)))))
                  refine wpQuiet_nil ?_
                  intro w7 hW
                  replace k0 := k0.later hW
                  replace kc := kc.later hW
                  replace hi := hi.later hW
                  replace hr2 := hr2.later hW
                  have cw7 := bl2 hW cw6
                  clear hW cw6
                  clear l4
                  go_wp2_with fail
                  go_roundg (gk - 1)
                  case measure => omega
                  case rel => exact ⟨n + 1, [], a2, c2, by omega, rfl, by simp only [Int.natCast_add]; first | rfl | (congr 1; omega), by go_num, hr2, .inl rfl, k0, kc, hi, cw7⟩
              · have gd : decide (x.day ≤ o.day) = false := decide_eq_false hd
                go_upto_region 6 with fail
                refine Reg.region_quiet (by kernel_rfl) (by kernel_rfl) ?_
                iterate 16 (first | go_big_quiet_skip | (go_big_quiet_want; (first | (go_big_quiet_op; go_big_quiet_on) | (apply Reg.quiet_run; (intro W hW; (have q0 := hW.cell l4; have q1 := hW.cell e4); go_simp; (first | done | rfl | exact ⟨rfl, rfl⟩ )); (simp only [Act.put, List.setIfInBounds_toArray, List.set_cons_zero, List.set_cons_succ]; go_big_quiet_on)) | (apply Reg.quiet_call; (intro W hW; go_simp; (first | done | rfl | exact ⟨rfl, rfl⟩)); (intro W hW; (first | fail)); (simp only [Act.put, List.setIfInBounds_toArray, List.set_cons_zero, List.set_cons_succ]; go_big_quiet_on)))))
                refine wpQuiet_nil ?_
                intro w5 hW
                replace k0 := k0.later hW
                replace hr := hr.later hW
                have cw5 := bl2 hW cwr
                clear hW cwr
                clear l4 e4
                have HD := Lib.hid (du_none (o := o) (l := [x]) (.inr ⟨x, rfl, by omega⟩))
                have l4 := k0.c4
                go_wp2_with fail
                clear l4
                refine (due_any _ cp [x] o.day _ hr (by simp)).mono ?_
                rintro e w9 ⟨a9, c9, rfl, _, hb⟩
                replace k0 := k0.later hb
                have cw9 := bl2 hb cw5
                clear hb cw5
                rw [HD.out]
                clear HD
                go_wp2_with fail
                refine (live_any _).mono ?_
                rintro e wl ⟨rfl, hb⟩
                replace k0 := k0.later hb
                have cwl := bl2 hb cw9
                clear hb cw9
                go_wp2_with fail
                go_ret
                exact ⟨rfl, cwl⟩
            · have hd := Giv.done HO1 hg
              clear hg
              go_upto_region 6 with fail
              refine Reg.region_quiet (by kernel_rfl) (by kernel_rfl) ?_
              iterate 16 (first | go_big_quiet_skip | (go_big_quiet_want; (first | (go_big_quiet_op; go_big_quiet_on) | (apply Reg.quiet_run; (intro W hW; (have q0 := hW.cell l4); go_simp; (first | done | rfl | exact ⟨rfl, rfl⟩ )); (simp only [Act.put, List.setIfInBounds_toArray, List.set_cons_zero, List.set_cons_succ]; go_big_quiet_on)) | (apply Reg.quiet_call; (intro W hW; go_simp; (first | done | rfl | exact ⟨rfl, rfl⟩)); (intro W hW; (first | fail)); (simp only [Act.put, List.setIfInBounds_toArray, List.set_cons_zero, List.set_cons_succ]; go_big_quiet_on)))))
              refine wpQuiet_nil ?_
              intro w5 hW
              replace k0 := k0.later hW
              replace hr := hr.later hW
              have cw5 := bl2 hW cwr
              clear hW cwr
              clear l4
              have HD := Lib.hid (du_none (o := o) (l := [x]) (.inr ⟨x, rfl, hd⟩))
              have l4 := k0.c4
              go_wp2_with fail
              clear l4
              refine (due_any a cp [x] o.day _ hr (by simp)).mono ?_
              rintro e w9 ⟨a9, c9, rfl, _, hb⟩
              replace k0 := k0.later hb
              have cw9 := bl2 hb cw5
              clear hb cw5
              rw [HD.out]
              clear HD
              go_wp2_with fail
              refine (live_any _).mono ?_
              rintro e wl ⟨rfl, hb⟩
              replace k0 := k0.later hb
              have cwl := bl2 hb cw9
              clear hb cw9
              go_wp2_with fail
              go_ret
              exact ⟨rfl, cwl⟩
      · have g1 : (odE o != 0) = true := bne_iff_ne.2 hE
        clear hE
        generalize odE o = E at *
        go_wp2_with fail
        go_ret
        exact ⟨rfl, cw3⟩
end Go.Proofs.Ytdlmoijeflchgaa.So
