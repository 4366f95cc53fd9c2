/-
  StandingKeeps: right, others, Great, short.
-/
import Derived.Test.YtdlmoijeflchgaaSo8
namespace Go.Proofs.Ytdlmoijeflchgaa.So
open Go Go.RowKit
open Go.Proofs.Ytdlmoijeflchgaa
open Go.Proofs.Ytdlmoijeflchgaa.Ln (flat flat_len flat_get RowIn OwnR bl2)
set_option linter.unusedSimpArgs false
set_option linter.unusedVariables false
set_option maxRecDepth 100000

/-- A row loaded whole out of the midst of a block, in a region that draws its order. -/
theorem quiet_load_mid {P : Program} {C : World → Prop} {a : Act} {o : Oper} {K : Act → Prop} (ty : TypeId) (x : Operand) (ho : o.op = .load ty x)
    (b f : Nat) (hx : a.eval x = .pointer (some ⟨b, f, none⟩)) (cs : List Value) (d : TypeDesc) (hg : ∀ w, C w → w.rangeAt b f cs)
    (hu : P.underlying ty = some d) (hd : d.isRow = true) (hi : (P.info? ty).map (·.size) = some cs.length)
    (hk : K (a.put o.dst (.agg cs.toArray))) : o.quiet P a C K :=
  Reg.quiet_run (v := .agg cs.toArray) (fun w hw => by
    unfold execOp
    simp only [ho, hx, Instr.loadAt, Instr.sureAddr, Sem.run_bind, Sem.run_pure, Result.andThen_ok, run_loadVar_mid w b f ty cs d (hg w hw) hu hd hi]) hk
theorem adj_asc {l : List Od} (h : ∀ j, j < l.length → odE l[j]! = 0 ∧ (j = 0 ∨ l[j - 1]!.id < l[j]!.id)) : ∀ (d i : Nat), i + d + 1 < l.length → l[i]!.id < l[i + d + 1]!.id := by
  intro d
  induction d with
  | zero =>
    intro i hi
    have := (h (i + 1) hi).2
    simpa using this
  | succ d ih =>
    intro i hi
    have h1 := ih i (by omega)
    have h2 := (h (i + (d + 1) + 1) hi).2
    rcases h2 with h2 | h2
    · omega
    · rw [show i + (d + 1) + 1 - 1 = i + d + 1 by omega] at h2
      omega
theorem right_iff {l : List Od} : Right l ↔ (∀ j, j < l.length → odE l[j]! = 0 ∧ (j = 0 ∨ l[j - 1]!.id < l[j]!.id)) ∧ l.length ≤ 64 := by
  constructor
  · intro h
    refine ⟨fun j hj => ⟨(right_mem h hj).odE, ?_⟩, h.len⟩
    by_cases h0 : j = 0
    · exact .inl h0
    · refine .inr ?_
      have := (List.pairwise_iff_getElem.1 h.asc) (j - 1) j (by omega) hj (by omega)
      rwa [getElem!_pos l _ (by omega), getElem!_pos l _ hj]
  · rintro ⟨h, hl⟩
    refine ⟨fun o ho => ?_, ?_, hl⟩
    · obtain ⟨j, hj, rfl⟩ := List.mem_iff_getElem.1 ho
      have := (h j hj).1
      rw [getElem!_pos l _ hj] at this
      exact ok_of this
    · rw [List.pairwise_iff_getElem]
      intro i j hi hj hij
      have := adj_asc h (j - i - 1) i (by omega)
      rw [show i + (j - i - 1) + 1 = j by omega, getElem!_pos l _ hi, getElem!_pos l _ hj] at this
      exact this
theorem right_step {l : List Od} {k : Nat} (h : ∀ j, j < k → odE l[j]! = 0 ∧ (j = 0 ∨ l[j - 1]!.id < l[j]!.id)) (hk : odE l[k]! = 0 ∧ (k = 0 ∨ l[k - 1]!.id < l[k]!.id)) : ∀ j, j < k + 1 → odE l[j]! = 0 ∧ (j = 0 ∨ l[j - 1]!.id < l[j]!.id) := fun j hj => by
  by_cases e : j = k
  · subst e; exact hk
  · exact h j (by omega)
theorem right_no {l : List Od} {k : Nat} (hk : k < l.length) (h : ¬ (odE l[k]! = 0 ∧ (k = 0 ∨ l[k - 1]!.id < l[k]!.id))) : ¬ Right l := fun hr => h ((right_iff.1 hr).1 k hk)
/-- Equal orders are equal for Go, too. -/
theorem ord_eql (x y : Od) (W : World) : ∃ q : Bool, (binOp .eql 23 (.agg (oenc x).toArray) (.agg (oenc y).toArray)).run Try.prog W = .ok (.bool q) W ∧ (x = y → q = true) := by
  show ∃ q : Bool, (binOp .eql 23 (.agg #[.int .i64 (x).id, .int .i64 (x).fr, .int .i64 (x).too, .int .i64 (x).am, .int .i64 (x).day, .int .i64 (x).ev, .int .i64 (x).an, .int .i64 (x).un, .int .i64 (x).tr, .string (x).tx]) (.agg #[.int .i64 (y).id, .int .i64 (y).fr, .int .i64 (y).too, .int .i64 (y).am, .int .i64 (y).day, .int .i64 (y).ev, .int .i64 (y).an, .int .i64 (y).un, .int .i64 (y).tr, .string (y).tx])).run Try.prog W = .ok (.bool q) W ∧ (x = y → q = true)
  by_cases h : x = y
  · subst h
    exact ⟨true, by go_simp, fun _ => rfl⟩
  · refine (?_ : ∃ q : Bool, (binOp .eql 23 (.agg #[.int .i64 (x).id, .int .i64 (x).fr, .int .i64 (x).too, .int .i64 (x).am, .int .i64 (x).day, .int .i64 (x).ev, .int .i64 (x).an, .int .i64 (x).un, .int .i64 (x).tr, .string (x).tx]) (.agg #[.int .i64 (y).id, .int .i64 (y).fr, .int .i64 (y).too, .int .i64 (y).am, .int .i64 (y).day, .int .i64 (y).ev, .int .i64 (y).an, .int .i64 (y).un, .int .i64 (y).tr, .string (y).tx])).run Try.prog W = .ok (.bool q) W).imp fun q hq => ⟨hq, fun e => absurd e h⟩
    clear h
    go_simp
    repeat' split
    all_goals (first | exact .inr rfl | (refine .inl ?_; intros; simp_all))
def RtO (l : List Od) (w : World) (e : Ending) (w' : World) : Prop := ∃ b : Bool, e = .returned (.bool b) ∧ (b = true ↔ Right l) ∧ Below w.heap.size w w'
def RtR (w : World) (l : List Od) (g : Nat) (s3 : Value) (W : World) : Prop := ∃ k : Nat, k + g = l.length ∧ s3 = .int .i64 k ∧ (∀ j, j < k → odE l[j]! = 0 ∧ (j = 0 ∨ l[j - 1]!.id < l[j]!.id)) ∧ Below w.heap.size w W
set_option maxHeartbeats 16000000 in
theorem right_any (a : Option Addr) (cap : Nat) (l : List Od) (w : World) (h : RowIn oenc w a l) (hl : l.length ≤ 100000) (ht : ∀ o ∈ l, o.tx.size ≤ maxLen) : Calls Try.prog 15 #[.slice a l.length cap] w (RtO l w) := by
  have H := Lib.hid h
  have HT := Lib.hid ht
  clear h ht
  go_enter Try.func15, Try.ntmps15
  go_wp2_with fail
  go_loopg [3] l.length (RtR w l)
  case atStart => exact ⟨0, by omega, rfl, fun j hj => by omega, Below.refl _ _⟩
  case round =>
    obtain ⟨k, hk, rfl, hall, hbr⟩ := hrel
    have HA := Lib.hid hall
    clear hall
    by_cases hlt : k < l.length
    · obtain ⟨b, off, rfl, hc⟩ := row_at H.out (by omega)
      have HM := Lib.hid (fun (W' : World) (hW : Reg.Cls wr W') => rangeAt_later hW (rangeAt_later hbr (hc k hlt)))
      have e0 : wr.cell? ⟨b, off + k * 10, none⟩ = some (.int .i64 l[k]!.id) := rangeAt_later hbr (hc k hlt) 0 _ rfl
      have HCK := Lib.hid (fun (W : World) => odchk_any l[k]! W (HT.out _ (by rw [getElem!_pos l _ hlt]; exact List.getElem_mem _)))
      have i1 : (0 : Int) ≤ (k : Int) := by omega
      have i2 : (k : Int) < (l.length : Int) := by omega
      by_cases hE : odE l[k]! = 0
      · by_cases h0 : k = 0
        · have HS := Lib.hid (right_step HA.out ⟨hE, .inl h0⟩)
          have g1 : (odE l[k]! != 0) = false := by rw [hE]; rfl
          clear hE
          clear hc
          generalize hx : l[k]! = x at *
          have HX := Lib.hid hx
          clear hx
          generalize odE x = E at *
          have g0 : decide (0 < k) = false := decide_eq_false (by omega)
          have g0b : decide ((0 : Int) < (k : Int)) = false := decide_eq_false (by omega)
          clear h0
          go_upto_region 4 with fail
          refine Reg.region_quiet (by kernel_rfl) (by kernel_rfl) ?_
          iterate 3 (first | go_big_quiet_skip | (go_big_quiet_want; (first | (go_big_quiet_op; go_big_quiet_on) | (apply Reg.quiet_run; (intro W hW; skip; go_simp; (first | done | rfl | exact ⟨rfl, rfl⟩ )); (simp only [Act.put, List.setIfInBounds_toArray, List.set_cons_zero, List.set_cons_succ]; go_big_quiet_on)) | (apply Reg.quiet_call; (intro W hW; go_simp; (first | done | rfl | exact ⟨rfl, rfl⟩)); (intro W hW; (first | fail)); (simp only [Act.put, List.setIfInBounds_toArray, List.set_cons_zero, List.set_cons_succ]; go_big_quiet_on)))))
          (go_big_quiet_want; refine quiet_load_mid 23 _ rfl b (off + k * 10) (by rfl) (oenc x) _ HM.out Try.underlying23 rfl (by kernel_rfl) ?_; (simp only [Act.put, List.setIfInBounds_toArray, List.set_cons_zero, List.set_cons_succ]; go_big_quiet_on))
          iterate 1 (first | go_big_quiet_skip | (go_big_quiet_want; (first | (go_big_quiet_op; go_big_quiet_on) | (apply Reg.quiet_run; (intro W hW; skip; go_simp; (first | done | rfl | exact ⟨rfl, rfl⟩ )); (simp only [Act.put, List.setIfInBounds_toArray, List.set_cons_zero, List.set_cons_succ]; go_big_quiet_on)) | (apply Reg.quiet_call; (intro W hW; go_simp; (first | done | rfl | exact ⟨rfl, rfl⟩)); (intro W hW; (first | (go_at_call 10; exact Reg.cls_call hW (HCK.out _)))); (simp only [Act.put, List.setIfInBounds_toArray, List.set_cons_zero, List.set_cons_succ]; go_big_quiet_on)))))
          iterate 19 (first | go_big_quiet_skip | (go_big_quiet_want; (first | (go_big_quiet_op; go_big_quiet_on) | (apply Reg.quiet_run; (intro W hW; (have q0 := hW.cell e0); go_simp; (first | done | rfl | exact ⟨rfl, rfl⟩ )); (simp only [Act.put, List.setIfInBounds_toArray, List.set_cons_zero, List.set_cons_succ]; go_big_quiet_on)) | (apply Reg.quiet_call; (intro W hW; go_simp; (first | done | rfl | exact ⟨rfl, rfl⟩)); (intro W hW; (first | fail)); (simp only [Act.put, List.setIfInBounds_toArray, List.set_cons_zero, List.set_cons_succ]; go_big_quiet_on)))))
          refine wpQuiet_nil ?_
          intro w5 hW
          have b5 := bl2 hW hbr
          go_wp2_with fail
          go_roundg (gk - 1)
          case measure => omega
          case rel => exact ⟨k + 1, by omega, by go_num, HS.out, b5⟩
        · by_cases hlt2 : l[k - 1]!.id < l[k]!.id
          · have HS := Lib.hid (right_step HA.out ⟨hE, .inr hlt2⟩)
            have e1 : wr.cell? ⟨b, off + (k - 1) * 10, none⟩ = some (.int .i64 l[k - 1]!.id) := rangeAt_later hbr (hc (k - 1) (by omega)) 0 _ rfl
            have hw0 : IntKind.i64.wrap ((k : Int) - 1) = ((k - 1 : Nat) : Int) := by rw [IntKind.wrap_i64]; omega
            have i3 : k - 1 < l.length := by omega
            have g0 : decide (0 < k) = true := decide_eq_true (by omega)
            have g0b : decide ((0 : Int) < (k : Int)) = true := decide_eq_true (by omega)
            have g1 : (odE l[k]! != 0) = false := by rw [hE]; rfl
            clear hE
            clear hc
            generalize hx : l[k]! = x at *
            have HX := Lib.hid hx
            clear hx
            generalize odE x = E at *
            generalize l[k - 1]! = y at *
            have g2 : decide (x.id ≤ y.id) = false := decide_eq_false (by omega)
            go_upto_region 4 with fail
            refine Reg.region_quiet (by kernel_rfl) (by kernel_rfl) ?_
            iterate 3 (first | go_big_quiet_skip | (go_big_quiet_want; (first | (go_big_quiet_op; go_big_quiet_on) | (apply Reg.quiet_run; (intro W hW; skip; go_simp; (first | done | rfl | exact ⟨rfl, rfl⟩ )); (simp only [Act.put, List.setIfInBounds_toArray, List.set_cons_zero, List.set_cons_succ]; go_big_quiet_on)) | (apply Reg.quiet_call; (intro W hW; go_simp; (first | done | rfl | exact ⟨rfl, rfl⟩)); (intro W hW; (first | fail)); (simp only [Act.put, List.setIfInBounds_toArray, List.set_cons_zero, List.set_cons_succ]; go_big_quiet_on)))))
            (go_big_quiet_want; refine quiet_load_mid 23 _ rfl b (off + k * 10) (by rfl) (oenc x) _ HM.out Try.underlying23 rfl (by kernel_rfl) ?_; (simp only [Act.put, List.setIfInBounds_toArray, List.set_cons_zero, List.set_cons_succ]; go_big_quiet_on))
            iterate 1 (first | go_big_quiet_skip | (go_big_quiet_want; (first | (go_big_quiet_op; go_big_quiet_on) | (apply Reg.quiet_run; (intro W hW; skip; go_simp; (first | done | rfl | exact ⟨rfl, rfl⟩ )); (simp only [Act.put, List.setIfInBounds_toArray, List.set_cons_zero, List.set_cons_succ]; go_big_quiet_on)) | (apply Reg.quiet_call; (intro W hW; go_simp; (first | done | rfl | exact ⟨rfl, rfl⟩)); (intro W hW; (first | (go_at_call 10; exact Reg.cls_call hW (HCK.out _)))); (simp only [Act.put, List.setIfInBounds_toArray, List.set_cons_zero, List.set_cons_succ]; go_big_quiet_on)))))
            iterate 19 (first | go_big_quiet_skip | (go_big_quiet_want; (first | (go_big_quiet_op; go_big_quiet_on) | (apply Reg.quiet_run; (intro W hW; (have q0 := hW.cell e0; have q1 := hW.cell e1); go_simp; (first | done | rfl | exact ⟨rfl, rfl⟩ )); (simp only [Act.put, List.setIfInBounds_toArray, List.set_cons_zero, List.set_cons_succ]; go_big_quiet_on)) | (apply Reg.quiet_call; (intro W hW; go_simp; (first | done | rfl | exact ⟨rfl, rfl⟩)); (intro W hW; (first | fail)); (simp only [Act.put, List.setIfInBounds_toArray, List.set_cons_zero, List.set_cons_succ]; go_big_quiet_on)))))
            refine wpQuiet_nil ?_
            intro w5 hW
            have b5 := bl2 hW hbr
            go_wp2_with fail
            go_roundg (gk - 1)
            case measure => omega
            case rel => exact ⟨k + 1, by omega, by go_num, HS.out, b5⟩
          · have HN := Lib.hid (right_no hlt (fun h => by rcases h.2 with h | h; exact h0 h; exact hlt2 h))
            have e1 : wr.cell? ⟨b, off + (k - 1) * 10, none⟩ = some (.int .i64 l[k - 1]!.id) := rangeAt_later hbr (hc (k - 1) (by omega)) 0 _ rfl
            have hw0 : IntKind.i64.wrap ((k : Int) - 1) = ((k - 1 : Nat) : Int) := by rw [IntKind.wrap_i64]; omega
            have i3 : k - 1 < l.length := by omega
            have g0 : decide (0 < k) = true := decide_eq_true (by omega)
            have g0b : decide ((0 : Int) < (k : Int)) = true := decide_eq_true (by omega)
            have g1 : (odE l[k]! != 0) = false := by rw [hE]; rfl
            clear hE
            clear hc
            generalize hx : l[k]! = x at *
            have HX := Lib.hid hx
            clear hx
            generalize odE x = E at *
            generalize l[k - 1]! = y at *
            have g2 : decide (x.id ≤ y.id) = true := decide_eq_true (by omega)
            go_upto_region 4 with fail
            refine Reg.region_quiet (by kernel_rfl) (by kernel_rfl) ?_
            iterate 3 (first | go_big_quiet_skip | (go_big_quiet_want; (first | (go_big_quiet_op; go_big_quiet_on) | (apply Reg.quiet_run; (intro W hW; skip; go_simp; (first | done | rfl | exact ⟨rfl, rfl⟩ )); (simp only [Act.put, List.setIfInBounds_toArray, List.set_cons_zero, List.set_cons_succ]; go_big_quiet_on)) | (apply Reg.quiet_call; (intro W hW; go_simp; (first | done | rfl | exact ⟨rfl, rfl⟩)); (intro W hW; (first | fail)); (simp only [Act.put, List.setIfInBounds_toArray, List.set_cons_zero, List.set_cons_succ]; go_big_quiet_on)))))
            (go_big_quiet_want; refine quiet_load_mid 23 _ rfl b (off + k * 10) (by rfl) (oenc x) _ HM.out Try.underlying23 rfl (by kernel_rfl) ?_; (simp only [Act.put, List.setIfInBounds_toArray, List.set_cons_zero, List.set_cons_succ]; go_big_quiet_on))
            iterate 1 (first | go_big_quiet_skip | (go_big_quiet_want; (first | (go_big_quiet_op; go_big_quiet_on) | (apply Reg.quiet_run; (intro W hW; skip; go_simp; (first | done | rfl | exact ⟨rfl, rfl⟩ )); (simp only [Act.put, List.setIfInBounds_toArray, List.set_cons_zero, List.set_cons_succ]; go_big_quiet_on)) | (apply Reg.quiet_call; (intro W hW; go_simp; (first | done | rfl | exact ⟨rfl, rfl⟩)); (intro W hW; (first | (go_at_call 10; exact Reg.cls_call hW (HCK.out _)))); (simp only [Act.put, List.setIfInBounds_toArray, List.set_cons_zero, List.set_cons_succ]; go_big_quiet_on)))))
            iterate 19 (first | go_big_quiet_skip | (go_big_quiet_want; (first | (go_big_quiet_op; go_big_quiet_on) | (apply Reg.quiet_run; (intro W hW; (have q0 := hW.cell e0; have q1 := hW.cell e1); go_simp; (first | done | rfl | exact ⟨rfl, rfl⟩ )); (simp only [Act.put, List.setIfInBounds_toArray, List.set_cons_zero, List.set_cons_succ]; go_big_quiet_on)) | (apply Reg.quiet_call; (intro W hW; go_simp; (first | done | rfl | exact ⟨rfl, rfl⟩)); (intro W hW; (first | fail)); (simp only [Act.put, List.setIfInBounds_toArray, List.set_cons_zero, List.set_cons_succ]; go_big_quiet_on)))))
            refine wpQuiet_nil ?_
            intro w5 hW
            have b5 := bl2 hW hbr
            go_wp2_with fail
            go_ret
            exact ⟨false, rfl, ⟨fun h => (by cases h), fun h => absurd h HN.out⟩, b5⟩
      · have g1 : (odE l[k]! != 0) = true := bne_iff_ne.2 hE
        have HN := Lib.hid (right_no hlt (fun h => hE h.1))
        clear hE
        clear hc
        generalize hx : l[k]! = x at *
        have HX := Lib.hid hx
        clear hx
        generalize odE x = E at *
        go_upto_region 4 with fail
        refine Reg.region_quiet (by kernel_rfl) (by kernel_rfl) ?_
        iterate 3 (first | go_big_quiet_skip | (go_big_quiet_want; (first | (go_big_quiet_op; go_big_quiet_on) | (apply Reg.quiet_run; (intro W hW; skip; go_simp; (first | done | rfl | exact ⟨rfl, rfl⟩ )); (simp only [Act.put, List.setIfInBounds_toArray, List.set_cons_zero, List.set_cons_succ]; go_big_quiet_on)) | (apply Reg.quiet_call; (intro W hW; go_simp; (first | done | rfl | exact ⟨rfl, rfl⟩)); (intro W hW; (first | fail)); (simp only [Act.put, List.setIfInBounds_toArray, List.set_cons_zero, List.set_cons_succ]; go_big_quiet_on)))))
        (go_big_quiet_want; refine quiet_load_mid 23 _ rfl b (off + k * 10) (by rfl) (oenc x) _ HM.out Try.underlying23 rfl (by kernel_rfl) ?_; (simp only [Act.put, List.setIfInBounds_toArray, List.set_cons_zero, List.set_cons_succ]; go_big_quiet_on))
        iterate 1 (first | go_big_quiet_skip | (go_big_quiet_want; (first | (go_big_quiet_op; go_big_quiet_on) | (apply Reg.quiet_run; (intro W hW; skip; go_simp; (first | done | rfl | exact ⟨rfl, rfl⟩ )); (simp only [Act.put, List.setIfInBounds_toArray, List.set_cons_zero, List.set_cons_succ]; go_big_quiet_on)) | (apply Reg.quiet_call; (intro W hW; go_simp; (first | done | rfl | exact ⟨rfl, rfl⟩)); (intro W hW; (first | (go_at_call 10; exact Reg.cls_call hW (HCK.out _)))); (simp only [Act.put, List.setIfInBounds_toArray, List.set_cons_zero, List.set_cons_succ]; go_big_quiet_on)))))
        iterate 19 (first | go_big_quiet_skip | (go_big_quiet_want; (first | (go_big_quiet_op; go_big_quiet_on) | (apply Reg.quiet_run; (intro W hW; (have q0 := hW.cell e0); go_simp; (first | done | rfl | exact ⟨rfl, rfl⟩ )); (simp only [Act.put, List.setIfInBounds_toArray, List.set_cons_zero, List.set_cons_succ]; go_big_quiet_on)) | (apply Reg.quiet_call; (intro W hW; go_simp; (first | done | rfl | exact ⟨rfl, rfl⟩)); (intro W hW; (first | fail)); (simp only [Act.put, List.setIfInBounds_toArray, List.set_cons_zero, List.set_cons_succ]; go_big_quiet_on)))))
        refine wpQuiet_nil ?_
        intro w5 hW
        have b5 := bl2 hW hbr
        go_wp2_with fail
        go_ret
        exact ⟨false, rfl, ⟨fun h => (by cases h), fun h => absurd h HN.out⟩, b5⟩
    · have HI := Lib.hid (show Right l ↔ l.length ≤ 64 from right_iff.trans ⟨fun h => h.2, fun h => ⟨fun j hj => HA.out j (by omega), h⟩⟩)
      by_cases h6 : l.length ≤ 64
      · go_wp2_with fail
        go_ret
        exact ⟨_, rfl, by rw [HI.out]; simp; omega, hbr⟩
      · go_wp2_with fail
        go_ret
        exact ⟨_, rfl, by rw [HI.out]; simp; omega, hbr⟩
end Go.Proofs.Ytdlmoijeflchgaa.So
