/-
  The contract of package wide's Parse.
-/
import Derived.Test.YtmdomlfkehhleaaDecim
import Derived.Test.YtmdomlfkehhleaaAlc
import Derived.Deep.LoopGhost
namespace Go.Proofs.Ytmdomlfkehhleaa.Wt
open Go.RowKit
open Go.Proofs.Ytmdomlfkehhleaa
open Go.Proofs.Ytmdomlfkehhleaa.Wm
open Go.Proofs.Ytmdomlfkehhleaa.Tx

/-- What Parse returns. -/
def ParsePost (w : World) (l : List UInt8) (e : Ending) (w' : World) : Prop :=
  if valid l = true then WSum w (num l) e w' else e = .returned (.tuple #[.agg #[.int .i64 0, .int .u64 0], .int .i64 2]) ∧ Below w.heap.size w w'
theorem post_bad {w w' : World} {l : List UInt8} (h : valid l = false) (hb : Below w.heap.size w w') : ParsePost w l (.returned (.tuple #[.agg #[.int .i64 0, .int .u64 0], .int .i64 2])) w' := by
  unfold ParsePost; rw [if_neg (by rw [h]; decide)]; exact ⟨rfl, hb⟩
theorem post_over {w w' : World} {l : List UInt8} (h : valid l = true) (hn : ¬ I128 (num l)) (hb : Below w.heap.size w w') : ParsePost w l (.returned (.tuple #[.agg #[.int .i64 0, .int .u64 0], .int .i64 6])) w' := by
  unfold ParsePost; rw [if_pos h]; exact wsum_out hn hb
theorem post_fit {w w' : World} {l : List UInt8} {p : Int} (h : valid l = true) (hn : num l = p) (hb : Below w.heap.size w w') : ParsePost w l (.returned (.tuple #[.agg #[.int .i64 (hi (fit p)), .int .u64 (lo (fit p))], .int .i64 (ovf p)])) w' := by
  unfold ParsePost; rw [if_pos h, hn]; exact ⟨rfl, hb⟩

/-- A text with or without a minus. -/
def sgt (m : Bool) (t : List UInt8) : List UInt8 := if m then 45 :: t else t
/-- The number of a text with or without a minus, from its digits' number. -/
def sgv (m : Bool) (v : Int) : Int := if m then -v else v
/-- What the loop over places holds. -/
def PLoop (w : World) (t : List UInt8) (G : Nat) (g : Nat) (vf vi : Value) (wr : World) : Prop := ∃ (k : Nat) (o : Int) (fb : Bool), k + g = t.length ∧ PRel t k o fb ∧ vf = .bool fb ∧ vi = .int .i64 k ∧
  Two wr G (.int .u64 (hi o)) (.int .u64 (lo o)) ∧ Two wr w.heap.size (.int .i64 0) (.int .u64 0) ∧ w.heap.size < G ∧ Below w.heap.size w wr

/-- How the digits may begin. -/
def SgOk (m : Bool) (c : UInt8) (t : List UInt8) : Prop := (m = false → ¬ c = 45) ∧ (c = 48 → t = [] ∧ m = false)
theorem sg_yes {m : Bool} {c : UInt8} {t : List UInt8} (hg : SgOk m c t) (h : (c :: t).all isDig = true) : valid (sgt m (c :: t)) = true ∧ num (sgt m (c :: t)) = sgv m (val10 (c :: t)) := by
  obtain ⟨hm, h0⟩ := hg
  have hn : numB (c :: t) = true := by
    unfold numB
    rw [h]
    by_cases e : c = 48
    · rw [e, (h0 e).1]; rfl
    · have : (some c != some 48) = true := by simpa using e
      simp [this]
  cases m with
  | true =>
    have hc : ¬ c = 48 := fun e => by have := (h0 e).2; cases this
    have : (some c != some 48) = true := by simpa using hc
    simp [sgt, sgv, valid, num, hn, this]
  | false =>
    have := hm rfl
    simp [sgt, sgv, valid, num, hn, this]
theorem sg_no {m : Bool} {c : UInt8} {t : List UInt8} (hg : SgOk m c t) {k : Nat} (hk : k < (c :: t).length) (h : isDig (c :: t)[k] = false) : valid (sgt m (c :: t)) = false := by
  obtain ⟨hm, _⟩ := hg
  have hn := numB_bad hk h
  cases m with
  | true => simp [sgt, valid, hn]
  | false =>
    have := hm rfl
    simp [sgt, valid, hn, this]
theorem sg_over {m : Bool} {v : Int} (h : 340282366920938463463374607431768211455 < v) : ¬ I128 (sgv m v) := by
  unfold sgv I128; split <;> omega
theorem sg_ab {m : Bool} {v : Int} (h : 0 ≤ v) : ab (sgv m v) = v := by
  unfold sgv ab; (repeat' split) <;> omega
/-- The tenth digits. -/
theorem dig_get (j : Nat) (hj : j < 10) : ∀ h, (⟨#[48, 49, 50, 51, 52, 53, 54, 55, 56, 57]⟩ : ByteArray)[j]'h = UInt8.ofNat (48 + j) := by
  have : j = 0 ∨ j = 1 ∨ j = 2 ∨ j = 3 ∨ j = 4 ∨ j = 5 ∨ j = 6 ∨ j = 7 ∨ j = 8 ∨ j = 9 := by omega
  rcases this with rfl | rfl | rfl | rfl | rfl | rfl | rfl | rfl | rfl | rfl <;> (intro h; rfl)
theorem dig_none {c : UInt8} (h : ∀ i, i < 10 → ¬ c.toNat = 48 + i) : isDig c = false := by
  rw [Bool.eq_false_iff]
  intro hd
  have := isDig_bd hd
  exact h (c.toNat - 48) (by omega) (by omega)
/-- signed at a size, with the sign of a number that has it. -/
theorem signed_sgv (m : Bool) (o : Int) (w : World) (ho : U128 o) (hz : m = true → o ≠ 0) : Calls Try.prog 34 #[.agg #[.int .u64 (hi o), .int .u64 (lo o)], .bool m] w fun e w' => e = .returned (.tuple #[.agg #[.int .i64 (hi (fit (sgv m o))), .int .u64 (lo (fit (sgv m o)))], .int .i64 (ovf (sgv m o))]) ∧ Below w.heap.size w w' := by
  have hab := sg_ab (m := m) ho.1
  have hd : decide (sgv m o < 0) = m := by
    have := ho.1
    cases m with
    | true => have := hz rfl; unfold sgv; simp; omega
    | false => unfold sgv; simp; omega
  have := (signed_fit (sgv m o) (by rw [hab]; exact ho)).out w
  rw [hab, hd] at this
  exact this

section
attribute [local go_sem] bs_get bs_list
theorem val10_pos {c : UInt8} {t : List UInt8} (h : (c :: t).all isDig = true) (hc : ¬ c = 48) : 0 < val10 (c :: t) := by
  simp only [List.all_cons, Bool.and_eq_true] at h
  have h1 := isDig_bd h.1
  have h2 : (c.toNat : Int) ≠ 48 := fun e => hc (c48.1 e)
  have := fold_nonneg t (0 * 10 + ((c.toNat : Int) - 48)) (by omega) h.2
  unfold val10
  simp only [List.foldl_cons]
  omega
set_option maxRecDepth 4000 in
set_option maxHeartbeats 4000000 in
theorem parse_body (c : UInt8) (t : List UInt8) (w : World) (hl : t.length ≤ 199) (hm : ¬ c = 45) (h48 : ¬ c = 48) :
    Calls Try.prog 13 #[.string (bs (c :: t))] w (ParsePost w (sgt false (c :: t))) := by
  have hs : (bs (c :: t)).size = t.length + 1 := bs_size _
  have hg : ∀ h, (c :: t)[0]'h = c := fun _ => rfl
  have h48' : ((c.toNat : Int) == 48) = false := beq_eq_false_iff_ne.2 fun e => h48 (c48.1 e)
  have hc45 : ((c.toNat : Int) == 45) = false := beq_eq_false_iff_ne.2 fun e => hm (c45.1 e)
  have HM : SgOk false c t := ⟨fun _ => hm, fun e => absurd e h48⟩
  clear h48 hm
  go_enter Try.func13, Try.ntmps13
  go_wp2_with fail
  go_step3
  go_wp2_with fail
  go_step3
  go_wp2_with fail
  go_loopg [7, 42] (t.length + 1) (PLoop w (c :: t) (w.heap.size + 1))
  case atStart => exact ⟨0, 0, true, by simp, PRel.start _, rfl, rfl, ⟨by simp [go_sem, hi_0], by simp [go_sem, lo_0], by simp [go_sem], by simp [go_sem]⟩, ⟨by simp [go_sem], by simp [go_sem], by simp [go_sem], by simp [go_sem]⟩, by omega, (by repeat (first | assumption | exact Below.refl _ _ | refine Below.setCell ?_ (by first | exact Nat.le_refl _ | (simp; done) | (simp; omega) | omega) _ | refine Below.alloc ?_ (by first | exact Nat.le_refl _ | (simp; done) | (simp; omega) | omega) _ | refine Below.drew ?_ | exact Nat.le_refl _))⟩
  case round =>
    obtain ⟨k, o, fb, hk, hr, rfl, rfl, ⟨p1, p2, p3, p4⟩, ⟨q1, q2, q3, q4⟩, hgt, hbe⟩ := hrel
    have HR := Lib.hid hr
    by_cases hlt : k < t.length + 1
    · have hom := hr.om
      clear hr
      have hlt' : k < (c :: t).length := by simpa using hlt
      obtain ⟨ck, hck⟩ : ∃ x, x = (c :: t)[k]'hlt' := ⟨_, rfl⟩
      have HCK := Lib.hid hck
      clear hck
      have HK := Lib.hid hk
      clear hk
      go_wp2_with fail
      obtain ⟨wo, rfl⟩ : ∃ wo : World, wo = wr := ⟨_, rfl⟩
      obtain ⟨g0, rfl⟩ : ∃ g : Nat, g = gk := ⟨_, rfl⟩
      go_loopg [7, 45] 10 (fun g2 s7 s45 wy => ∃ j : Nat, j + g2 = 10 ∧ s7 = .bool fb ∧ s45 = .int .i64 j ∧ (∀ i, i < j → ¬ ck.toNat = 48 + i) ∧ Below wo.heap.size wo wy)
      case atStart => exact ⟨0, rfl, rfl, rfl, fun i hi => by omega, Below.refl _ _⟩
      case round =>
        obtain ⟨j, hj, rfl, rfl, hno, hby⟩ := hrel
        have HNO := Lib.hid hno
        clear hno
        have HJ := Lib.hid hj
        clear hj
        obtain ⟨s1, s2, s3, s4⟩ := later2 hby p1 p2 p3 p4
        obtain ⟨t1, t2, t3, t4⟩ := later2 hby q1 q2 q3 q4
        have b1 := bl2 hby hbe
        clear p1 p2 p3 p4 q1 q2 q3 q4
        by_cases hj10 : j < 10
        · have hx : ∀ h, (c :: t)[k]'h = ck := fun _ => HCK.out.symm
          have hdg := dig_get j hj10
          have hd : ((UInt8.ofNat (48 + j)).toNat : Int) = 48 + j := by simp; omega
          generalize UInt8.ofNat (48 + j) = d at *
          by_cases he : (ck.toNat : Int) = d.toNat
          · have he' := beq_iff_eq.2 he
            have HE := Lib.hid (he.trans hd)
            clear he hd
            go_wp2_with fail
            refine Reg.region_quiet (by kernel_rfl) (by kernel_rfl) ?_
            iterate 6 (first | go_big_quiet_skip | (go_big_quiet_want; (first | (go_big_quiet_op; go_big_quiet_on) | (apply Reg.quiet_run; (intro W hW; skip; go_simp; (first | done | rfl | exact ⟨rfl, rfl⟩ )); (simp only [Act.put, List.setIfInBounds_toArray, List.set_cons_zero, List.set_cons_succ]; go_big_quiet_on)) | (apply Reg.quiet_call; (intro W hW; go_simp; (first | done | rfl | exact ⟨rfl, rfl⟩)); (intro W hW; (first | fail)); (simp only [Act.put, List.setIfInBounds_toArray, List.set_cons_zero, List.set_cons_succ]; go_big_quiet_on)))))
            refine wpQuiet_nil ?_
            intro w1 hW
            have hb1 : Below wr.heap.size wr w1 := hW
            clear hW
            obtain ⟨p1, p2, p3, p4⟩ := later2 hb1 s1 s2 s3 s4
            obtain ⟨q1, q2, q3, q4⟩ := later2 hb1 t1 t2 t3 t4
            have b2 := bl2 hb1 b1
            clear s1 s2 s3 s4 t1 t2 t3 t4 hb1 hby b1
            have hd := HE.out
            have hdig : isDig ((c :: t)[k]'hlt') = true := (isDig_iff _).2 (by rw [← HCK.out]; omega)
            have hj' : (((c :: t)[k]'hlt').toNat : Int) - 48 = j := by rw [← HCK.out]; omega
            by_cases hf : o * 10 + (j : Int) ≤ 340282366920938463463374607431768211455
            · have HY := Lib.hid (fun W => times_yes o 10 (j : Int) W hom (by unfold U64; omega) (by unfold U64; omega) hf)
              have hN : PRel (c :: t) (k + 1) (o * 10 + (j : Int)) fb := by
                have := HR.out
                rw [← hj'] at hf ⊢
                cases fb with
                | true => exact this.yes hlt' hdig hf
                | false => exact this.lost hlt' hdig (by unfold U128; unfold U128 at hom; omega)
              have HN := Lib.hid hN
              clear hN hf hd hj' hdig hx hdg he'
              generalize o * 10 + (j : Int) = o2 at *
              go_wp2_with fail
              refine (HY.out _).mono ?_
              rintro e w3 ⟨rfl, hb3⟩
              obtain ⟨xc, xd, xf, xg⟩ := later2 hb3 (g := w.heap.size) (u := .int .i64 0) (v := .int .u64 0) (by simp [go_sem, *]) (by simp [go_sem, *]) (by simp [go_sem, *]) (by simp [go_sem, *])
              have xz : w.heap.size < w3.heap.size := World.block_lt_of_cell? _ _ xc
              obtain ⟨yc, yd, yf, yg⟩ := later2 hb3 (g := w.heap.size + 1) (u := .int .u64 (hi o)) (v := .int .u64 (lo o)) (by simp [go_sem, *]) (by simp [go_sem, *]) (by simp [go_sem, *]) (by simp [go_sem, *])
              have yz : w.heap.size + 1 < w3.heap.size := World.block_lt_of_cell? _ _ yc
              have b3 : Below w.heap.size w w3 := bl2 hb3 b2
              clear hb3 p1 p2 p3 p4 q1 q2 q3 q4 b2
              cases fb
              all_goals
                go_wp2_with fail
                go_roundg (g0 - 1)
                case measure => have := HK.out; simp at this; omega
                case rel =>
                  refine ⟨k + 1, o2, _, by have := HK.out; simp at this ⊢; omega, HN.out, rfl, by go_num, ⟨?_, ?_, ?_, ?_⟩, ⟨?_, ?_, ?_, ?_⟩, hgt, ?_⟩
                  all_goals (first | (simp [go_sem, *]; done) | exact (by repeat (first | assumption | exact Below.refl _ _ | refine Below.setCell ?_ (by first | exact Nat.le_refl _ | (simp; done) | (simp; omega) | omega) _ | refine Below.alloc ?_ (by first | exact Nat.le_refl _ | (simp; done) | (simp; omega) | omega) _ | refine Below.drew ?_ | exact Nat.le_refl _)))
            · have HY := Lib.hid (fun W => times_not o 10 (j : Int) W hom (by unfold U64; omega) (by unfold U64; omega) (by omega))
              have hN : ∀ o' : Int, U128 o' → PRel (c :: t) (k + 1) o' false := by
                intro o' ho'
                have := HR.out
                rw [← hj'] at hf
                cases fb with
                | true => exact this.no hlt' hdig (by omega) ho'
                | false => exact this.lost hlt' hdig ho'
              have HN := Lib.hid hN
              clear hN hf hd hj' hdig hx hdg he'
              go_wp2_with fail
              refine (HY.out _).mono ?_
              rintro e w3 ⟨a', b', rfl, ua, ub, hb3⟩
              obtain ⟨xc, xd, xf, xg⟩ := later2 hb3 (g := w.heap.size) (u := .int .i64 0) (v := .int .u64 0) (by simp [go_sem, *]) (by simp [go_sem, *]) (by simp [go_sem, *]) (by simp [go_sem, *])
              have xz : w.heap.size < w3.heap.size := World.block_lt_of_cell? _ _ xc
              obtain ⟨yc, yd, yf, yg⟩ := later2 hb3 (g := w.heap.size + 1) (u := .int .u64 (hi o)) (v := .int .u64 (lo o)) (by simp [go_sem, *]) (by simp [go_sem, *]) (by simp [go_sem, *]) (by simp [go_sem, *])
              have yz : w.heap.size + 1 < w3.heap.size := World.block_lt_of_cell? _ _ yc
              have b3 : Below w.heap.size w w3 := bl2 hb3 b2
              clear hb3 p1 p2 p3 p4 q1 q2 q3 q4 b2
              cases fb
              all_goals
                go_wp2_with fail
                go_roundg (g0 - 1)
                case measure => have := HK.out; simp at this; omega
                case rel =>
                  refine ⟨k + 1, val a' b', _, by have := HK.out; simp at this ⊢; omega, HN.out _ (val_bdu ua ub), rfl, by go_num, ⟨?_, ?_, ?_, ?_⟩, ⟨?_, ?_, ?_, ?_⟩, hgt, ?_⟩
                  all_goals (first | (simp [go_sem, hi_val ub, lo_val ub, *]; done) | exact (by repeat (first | assumption | exact Below.refl _ _ | refine Below.setCell ?_ (by first | exact Nat.le_refl _ | (simp; done) | (simp; omega) | omega) _ | refine Below.alloc ?_ (by first | exact Nat.le_refl _ | (simp; done) | (simp; omega) | omega) _ | refine Below.drew ?_ | exact Nat.le_refl _)))
          · have he' := beq_eq_false_iff_ne.2 he
            have HE := Lib.hid (show (ck.toNat : Int) ≠ 48 + j from fun e => he (e.trans hd.symm))
            clear he hd
            go_wp2_with fail
            refine Reg.region_quiet (by kernel_rfl) (by kernel_rfl) ?_
            iterate 6 (first | go_big_quiet_skip | (go_big_quiet_want; (first | (go_big_quiet_op; go_big_quiet_on) | (apply Reg.quiet_run; (intro W hW; skip; go_simp; (first | done | rfl | exact ⟨rfl, rfl⟩ )); (simp only [Act.put, List.setIfInBounds_toArray, List.set_cons_zero, List.set_cons_succ]; go_big_quiet_on)) | (apply Reg.quiet_call; (intro W hW; go_simp; (first | done | rfl | exact ⟨rfl, rfl⟩)); (intro W hW; (first | fail)); (simp only [Act.put, List.setIfInBounds_toArray, List.set_cons_zero, List.set_cons_succ]; go_big_quiet_on)))))
            refine wpQuiet_nil ?_
            intro w1 hW
            have hb1 : Below wr.heap.size wr w1 := hW
            have by1 := bl2 hb1 hby
            clear hW hb1 hby
            go_wp2_with fail
            go_roundg (gk - 1)
            case measure => have := HJ.out; omega
            case rel =>
              refine ⟨j + 1, by have := HJ.out; omega, rfl, by go_num, fun i hi => ?_, by1⟩
              by_cases e : i = j
              · subst e; have := HE.out; omega
              · exact HNO.out i (by omega)
        · have HB := Lib.hid (sg_no (m := false) HM hlt' (show isDig ((c :: t)[k]'hlt') = false by rw [← HCK.out]; exact dig_none fun i hi => HNO.out i (by omega)))
          go_wp2_with fail
          try rw [Exit.noGoto_ret]
          simp [bodyPost, results, Try.results13, go_sem, *]
          exact post_bad HB.out (by repeat (first | assumption | exact Below.refl _ _ | refine Below.setCell ?_ (by first | exact Nat.le_refl _ | (simp; done) | (simp; omega) | omega) _ | refine Below.alloc ?_ (by first | exact Nat.le_refl _ | (simp; done) | (simp; omega) | omega) _ | refine Below.drew ?_ | exact Nat.le_refl _))
    · have hkl : k = (c :: t).length := by have := hr.le; simp at this ⊢; omega
      have hkt : k = t.length + 1 := by simpa using hkl
      have hr2 : PRel (c :: t) (c :: t).length o fb := hkl ▸ hr
      obtain ⟨hall, hval, hfit⟩ := hr2.end_
      obtain ⟨hv1, hv2⟩ := sg_yes (m := false) HM hall
      have hom := hr.om
      clear hr HR hk hkl hr2
      subst hkt
      cases fb with
      | false =>
        have HO := Lib.hid (show ¬ I128 (num (sgt false (c :: t))) by rw [hv2]; exact sg_over (by have := of_decide_eq_false hfit.symm; omega))
        have HV := Lib.hid hv1
        clear hv1 hv2 hval hfit hall
        go_wp2_with fail
        try rw [Exit.noGoto_ret]
        simp [bodyPost, results, Try.results13, go_sem, *]
        exact post_over HV.out HO.out (by repeat (first | assumption | exact Below.refl _ _ | refine Below.setCell ?_ (by first | exact Nat.le_refl _ | (simp; done) | (simp; omega) | omega) _ | refine Below.alloc ?_ (by first | exact Nat.le_refl _ | (simp; done) | (simp; omega) | omega) _ | refine Below.drew ?_ | exact Nat.le_refl _))
      | true =>
        have hov := hval rfl
        have hz : false = true → o ≠ 0 := fun h => by cases h
        have HS := Lib.hid (fun W => signed_sgv false o W hom hz)
        rw [← hov] at hv2
        have HV := Lib.hid hv1
        have HN := Lib.hid hv2
        clear hv1 hv2 hval hfit hall hov hz
        go_wp2_with fail
        refine (HS.out _).mono ?_
        rintro e w3 ⟨rfl, hb3⟩
        obtain ⟨xc, xd, xf, xg⟩ := later2 hb3 (g := w.heap.size) (u := .int .i64 0) (v := .int .u64 0) (by simp [go_sem, *]) (by simp [go_sem, *]) (by simp [go_sem, *]) (by simp [go_sem, *])
        have xz : w.heap.size < w3.heap.size := World.block_lt_of_cell? _ _ xc
        have b3 : Below w.heap.size w w3 := bl2 hb3 hbe
        clear hb3 p1 p2 p3 p4 q1 q2 q3 q4 hbe
        go_wp2_with fail
        try rw [Exit.noGoto_ret]
        simp [bodyPost, results, Try.results13, go_sem, *]
        exact post_fit HV.out HN.out (by repeat (first | assumption | exact Below.refl _ _ | refine Below.setCell ?_ (by first | exact Nat.le_refl _ | (simp; done) | (simp; omega) | omega) _ | refine Below.alloc ?_ (by first | exact Nat.le_refl _ | (simp; done) | (simp; omega) | omega) _ | refine Below.drew ?_ | exact Nat.le_refl _))

set_option maxRecDepth 4000 in
set_option maxHeartbeats 4000000 in
theorem parse_minus (c : UInt8) (t : List UInt8) (w : World) (hl : t.length ≤ 198) (h48 : ¬ c = 48) :
    Calls Try.prog 13 #[.string (bs (45 :: c :: t))] w (ParsePost w (sgt true (c :: t))) := by
  have hs : (bs (c :: t)).size = t.length + 1 := bs_size _
  have hs2 : (bs (45 :: c :: t)).size = t.length + 2 := bs_size _
  have hg : ∀ h, (c :: t)[0]'h = c := fun _ => rfl
  have hg2 : ∀ h, (45 :: c :: t)[0]'h = (45 : UInt8) := fun _ => rfl
  have h48' : ((c.toNat : Int) == 48) = false := beq_eq_false_iff_ne.2 fun e => h48 (c48.1 e)
  have HM : SgOk true c t := ⟨(fun h => by cases h), fun e => absurd e h48⟩
  have HZ := Lib.hid (show (c :: t).all isDig = true → 0 < val10 (c :: t) from fun h => val10_pos h h48)
  have hcut : (bs (45 :: c :: t)).extract 1 (t.length + 2) = bs (c :: t) := bs_tail 45 (c :: t)
  clear h48
  go_enter Try.func13, Try.ntmps13
  go_wp2_with fail
  go_step3
  go_wp2_with fail
  go_step3
  go_wp2_with fail
  go_loopg [7, 42] (t.length + 1) (PLoop w (c :: t) (w.heap.size + 1))
  case atStart => exact ⟨0, 0, true, by simp, PRel.start _, rfl, rfl, ⟨by simp [go_sem, hi_0], by simp [go_sem, lo_0], by simp [go_sem], by simp [go_sem]⟩, ⟨by simp [go_sem], by simp [go_sem], by simp [go_sem], by simp [go_sem]⟩, by omega, (by repeat (first | assumption | exact Below.refl _ _ | refine Below.setCell ?_ (by first | exact Nat.le_refl _ | (simp; done) | (simp; omega) | omega) _ | refine Below.alloc ?_ (by first | exact Nat.le_refl _ | (simp; done) | (simp; omega) | omega) _ | refine Below.drew ?_ | exact Nat.le_refl _))⟩
  case round =>
    obtain ⟨k, o, fb, hk, hr, rfl, rfl, ⟨p1, p2, p3, p4⟩, ⟨q1, q2, q3, q4⟩, hgt, hbe⟩ := hrel
    have HR := Lib.hid hr
    by_cases hlt : k < t.length + 1
    · have hom := hr.om
      clear hr
      have hlt' : k < (c :: t).length := by simpa using hlt
      obtain ⟨ck, hck⟩ : ∃ x, x = (c :: t)[k]'hlt' := ⟨_, rfl⟩
      have HCK := Lib.hid hck
      clear hck
      have HK := Lib.hid hk
      clear hk
      go_wp2_with fail
      obtain ⟨wo, rfl⟩ : ∃ wo : World, wo = wr := ⟨_, rfl⟩
      obtain ⟨g0, rfl⟩ : ∃ g : Nat, g = gk := ⟨_, rfl⟩
      go_loopg [7, 45] 10 (fun g2 s7 s45 wy => ∃ j : Nat, j + g2 = 10 ∧ s7 = .bool fb ∧ s45 = .int .i64 j ∧ (∀ i, i < j → ¬ ck.toNat = 48 + i) ∧ Below wo.heap.size wo wy)
      case atStart => exact ⟨0, rfl, rfl, rfl, fun i hi => by omega, Below.refl _ _⟩
      case round =>
        obtain ⟨j, hj, rfl, rfl, hno, hby⟩ := hrel
        have HNO := Lib.hid hno
        clear hno
        have HJ := Lib.hid hj
        clear hj
        obtain ⟨s1, s2, s3, s4⟩ := later2 hby p1 p2 p3 p4
        obtain ⟨t1, t2, t3, t4⟩ := later2 hby q1 q2 q3 q4
        have b1 := bl2 hby hbe
        clear p1 p2 p3 p4 q1 q2 q3 q4
        by_cases hj10 : j < 10
        · have hx : ∀ h, (c :: t)[k]'h = ck := fun _ => HCK.out.symm
          have hdg := dig_get j hj10
          have hd : ((UInt8.ofNat (48 + j)).toNat : Int) = 48 + j := by simp; omega
          generalize UInt8.ofNat (48 + j) = d at *
          by_cases he : (ck.toNat : Int) = d.toNat
          · have he' := beq_iff_eq.2 he
            have HE := Lib.hid (he.trans hd)
            clear he hd
            go_wp2_with fail
            refine Reg.region_quiet (by kernel_rfl) (by kernel_rfl) ?_
            iterate 6 (first | go_big_quiet_skip | (go_big_quiet_want; (first | (go_big_quiet_op; go_big_quiet_on) | (apply Reg.quiet_run; (intro W hW; skip; go_simp; (first | done | rfl | exact ⟨rfl, rfl⟩ )); (simp only [Act.put, List.setIfInBounds_toArray, List.set_cons_zero, List.set_cons_succ]; go_big_quiet_on)) | (apply Reg.quiet_call; (intro W hW; go_simp; (first | done | rfl | exact ⟨rfl, rfl⟩)); (intro W hW; (first | fail)); (simp only [Act.put, List.setIfInBounds_toArray, List.set_cons_zero, List.set_cons_succ]; go_big_quiet_on)))))
            refine wpQuiet_nil ?_
            intro w1 hW
            have hb1 : Below wr.heap.size wr w1 := hW
            clear hW
            obtain ⟨p1, p2, p3, p4⟩ := later2 hb1 s1 s2 s3 s4
            obtain ⟨q1, q2, q3, q4⟩ := later2 hb1 t1 t2 t3 t4
            have b2 := bl2 hb1 b1
            clear s1 s2 s3 s4 t1 t2 t3 t4 hb1 hby b1
            have hd := HE.out
            have hdig : isDig ((c :: t)[k]'hlt') = true := (isDig_iff _).2 (by rw [← HCK.out]; omega)
            have hj' : (((c :: t)[k]'hlt').toNat : Int) - 48 = j := by rw [← HCK.out]; omega
            by_cases hf : o * 10 + (j : Int) ≤ 340282366920938463463374607431768211455
            · have HY := Lib.hid (fun W => times_yes o 10 (j : Int) W hom (by unfold U64; omega) (by unfold U64; omega) hf)
              have hN : PRel (c :: t) (k + 1) (o * 10 + (j : Int)) fb := by
                have := HR.out
                rw [← hj'] at hf ⊢
                cases fb with
                | true => exact this.yes hlt' hdig hf
                | false => exact this.lost hlt' hdig (by unfold U128; unfold U128 at hom; omega)
              have HN := Lib.hid hN
              clear hN hf hd hj' hdig hx hdg he'
              generalize o * 10 + (j : Int) = o2 at *
              go_wp2_with fail
              refine (HY.out _).mono ?_
              rintro e w3 ⟨rfl, hb3⟩
              obtain ⟨xc, xd, xf, xg⟩ := later2 hb3 (g := w.heap.size) (u := .int .i64 0) (v := .int .u64 0) (by simp [go_sem, *]) (by simp [go_sem, *]) (by simp [go_sem, *]) (by simp [go_sem, *])
              have xz : w.heap.size < w3.heap.size := World.block_lt_of_cell? _ _ xc
              obtain ⟨yc, yd, yf, yg⟩ := later2 hb3 (g := w.heap.size + 1) (u := .int .u64 (hi o)) (v := .int .u64 (lo o)) (by simp [go_sem, *]) (by simp [go_sem, *]) (by simp [go_sem, *]) (by simp [go_sem, *])
              have yz : w.heap.size + 1 < w3.heap.size := World.block_lt_of_cell? _ _ yc
              have b3 : Below w.heap.size w w3 := bl2 hb3 b2
              clear hb3 p1 p2 p3 p4 q1 q2 q3 q4 b2
              cases fb
              all_goals
                go_wp2_with fail
                go_roundg (g0 - 1)
                case measure => have := HK.out; simp at this; omega
                case rel =>
                  refine ⟨k + 1, o2, _, by have := HK.out; simp at this ⊢; omega, HN.out, rfl, by go_num, ⟨?_, ?_, ?_, ?_⟩, ⟨?_, ?_, ?_, ?_⟩, hgt, ?_⟩
                  all_goals (first | (simp [go_sem, *]; done) | exact (by repeat (first | assumption | exact Below.refl _ _ | refine Below.setCell ?_ (by first | exact Nat.le_refl _ | (simp; done) | (simp; omega) | omega) _ | refine Below.alloc ?_ (by first | exact Nat.le_refl _ | (simp; done) | (simp; omega) | omega) _ | refine Below.drew ?_ | exact Nat.le_refl _)))
            · have HY := Lib.hid (fun W => times_not o 10 (j : Int) W hom (by unfold U64; omega) (by unfold U64; omega) (by omega))
              have hN : ∀ o' : Int, U128 o' → PRel (c :: t) (k + 1) o' false := by
                intro o' ho'
                have := HR.out
                rw [← hj'] at hf
                cases fb with
                | true => exact this.no hlt' hdig (by omega) ho'
                | false => exact this.lost hlt' hdig ho'
              have HN := Lib.hid hN
              clear hN hf hd hj' hdig hx hdg he'
              go_wp2_with fail
              refine (HY.out _).mono ?_
              rintro e w3 ⟨a', b', rfl, ua, ub, hb3⟩
              obtain ⟨xc, xd, xf, xg⟩ := later2 hb3 (g := w.heap.size) (u := .int .i64 0) (v := .int .u64 0) (by simp [go_sem, *]) (by simp [go_sem, *]) (by simp [go_sem, *]) (by simp [go_sem, *])
              have xz : w.heap.size < w3.heap.size := World.block_lt_of_cell? _ _ xc
              obtain ⟨yc, yd, yf, yg⟩ := later2 hb3 (g := w.heap.size + 1) (u := .int .u64 (hi o)) (v := .int .u64 (lo o)) (by simp [go_sem, *]) (by simp [go_sem, *]) (by simp [go_sem, *]) (by simp [go_sem, *])
              have yz : w.heap.size + 1 < w3.heap.size := World.block_lt_of_cell? _ _ yc
              have b3 : Below w.heap.size w w3 := bl2 hb3 b2
              clear hb3 p1 p2 p3 p4 q1 q2 q3 q4 b2
              cases fb
              all_goals
                go_wp2_with fail
                go_roundg (g0 - 1)
                case measure => have := HK.out; simp at this; omega
                case rel =>
                  refine ⟨k + 1, val a' b', _, by have := HK.out; simp at this ⊢; omega, HN.out _ (val_bdu ua ub), rfl, by go_num, ⟨?_, ?_, ?_, ?_⟩, ⟨?_, ?_, ?_, ?_⟩, hgt, ?_⟩
                  all_goals (first | (simp [go_sem, hi_val ub, lo_val ub, *]; done) | exact (by repeat (first | assumption | exact Below.refl _ _ | refine Below.setCell ?_ (by first | exact Nat.le_refl _ | (simp; done) | (simp; omega) | omega) _ | refine Below.alloc ?_ (by first | exact Nat.le_refl _ | (simp; done) | (simp; omega) | omega) _ | refine Below.drew ?_ | exact Nat.le_refl _)))
          · have he' := beq_eq_false_iff_ne.2 he
            have HE := Lib.hid (show (ck.toNat : Int) ≠ 48 + j from fun e => he (e.trans hd.symm))
            clear he hd
            go_wp2_with fail
            refine Reg.region_quiet (by kernel_rfl) (by kernel_rfl) ?_
            iterate 6 (first | go_big_quiet_skip | (go_big_quiet_want; (first | (go_big_quiet_op; go_big_quiet_on) | (apply Reg.quiet_run; (intro W hW; skip; go_simp; (first | done | rfl | exact ⟨rfl, rfl⟩ )); (simp only [Act.put, List.setIfInBounds_toArray, List.set_cons_zero, List.set_cons_succ]; go_big_quiet_on)) | (apply Reg.quiet_call; (intro W hW; go_simp; (first | done | rfl | exact ⟨rfl, rfl⟩)); (intro W hW; (first | fail)); (simp only [Act.put, List.setIfInBounds_toArray, List.set_cons_zero, List.set_cons_succ]; go_big_quiet_on)))))
            refine wpQuiet_nil ?_
            intro w1 hW
            have hb1 : Below wr.heap.size wr w1 := hW
            have by1 := bl2 hb1 hby
            clear hW hb1 hby
            go_wp2_with fail
            go_roundg (gk - 1)
            case measure => have := HJ.out; omega
            case rel =>
              refine ⟨j + 1, by have := HJ.out; omega, rfl, by go_num, fun i hi => ?_, by1⟩
              by_cases e : i = j
              · subst e; have := HE.out; omega
              · exact HNO.out i (by omega)
        · have HB := Lib.hid (sg_no (m := true) HM hlt' (show isDig ((c :: t)[k]'hlt') = false by rw [← HCK.out]; exact dig_none fun i hi => HNO.out i (by omega)))
          go_wp2_with fail
          try rw [Exit.noGoto_ret]
          simp [bodyPost, results, Try.results13, go_sem, *]
          exact post_bad HB.out (by repeat (first | assumption | exact Below.refl _ _ | refine Below.setCell ?_ (by first | exact Nat.le_refl _ | (simp; done) | (simp; omega) | omega) _ | refine Below.alloc ?_ (by first | exact Nat.le_refl _ | (simp; done) | (simp; omega) | omega) _ | refine Below.drew ?_ | exact Nat.le_refl _))
    · have hkl : k = (c :: t).length := by have := hr.le; simp at this ⊢; omega
      have hkt : k = t.length + 1 := by simpa using hkl
      have hr2 : PRel (c :: t) (c :: t).length o fb := hkl ▸ hr
      obtain ⟨hall, hval, hfit⟩ := hr2.end_
      obtain ⟨hv1, hv2⟩ := sg_yes (m := true) HM hall
      have hom := hr.om
      clear hr HR hk hkl hr2
      subst hkt
      cases fb with
      | false =>
        have HO := Lib.hid (show ¬ I128 (num (sgt true (c :: t))) by rw [hv2]; exact sg_over (by have := of_decide_eq_false hfit.symm; omega))
        have HV := Lib.hid hv1
        clear hv1 hv2 hval hfit hall
        go_wp2_with fail
        try rw [Exit.noGoto_ret]
        simp [bodyPost, results, Try.results13, go_sem, *]
        exact post_over HV.out HO.out (by repeat (first | assumption | exact Below.refl _ _ | refine Below.setCell ?_ (by first | exact Nat.le_refl _ | (simp; done) | (simp; omega) | omega) _ | refine Below.alloc ?_ (by first | exact Nat.le_refl _ | (simp; done) | (simp; omega) | omega) _ | refine Below.drew ?_ | exact Nat.le_refl _))
      | true =>
        have hov := hval rfl
        have hz : true = true → o ≠ 0 := fun _ h => absurd (hov.symm.trans h) (fun e => by have := HZ.out hall; omega)
        have HS := Lib.hid (fun W => signed_sgv true o W hom hz)
        rw [← hov] at hv2
        have HV := Lib.hid hv1
        have HN := Lib.hid hv2
        clear hv1 hv2 hval hfit hall hov hz
        go_wp2_with fail
        refine (HS.out _).mono ?_
        rintro e w3 ⟨rfl, hb3⟩
        obtain ⟨xc, xd, xf, xg⟩ := later2 hb3 (g := w.heap.size) (u := .int .i64 0) (v := .int .u64 0) (by simp [go_sem, *]) (by simp [go_sem, *]) (by simp [go_sem, *]) (by simp [go_sem, *])
        have xz : w.heap.size < w3.heap.size := World.block_lt_of_cell? _ _ xc
        have b3 : Below w.heap.size w w3 := bl2 hb3 hbe
        clear hb3 p1 p2 p3 p4 q1 q2 q3 q4 hbe
        go_wp2_with fail
        try rw [Exit.noGoto_ret]
        simp [bodyPost, results, Try.results13, go_sem, *]
        exact post_fit HV.out HN.out (by repeat (first | assumption | exact Below.refl _ _ | refine Below.setCell ?_ (by first | exact Nat.le_refl _ | (simp; done) | (simp; omega) | omega) _ | refine Below.alloc ?_ (by first | exact Nat.le_refl _ | (simp; done) | (simp; omega) | omega) _ | refine Below.drew ?_ | exact Nat.le_refl _))

set_option maxRecDepth 4000 in
set_option maxHeartbeats 4000000 in
theorem parse_zero (w : World) :
    Calls Try.prog 13 #[.string (bs [48])] w (ParsePost w (sgt false [48])) := by
  have hd : ∃ (c : UInt8) (t : List UInt8), c = 48 ∧ t = [] := ⟨_, _, rfl, rfl⟩
  obtain ⟨c, t, hc, ht⟩ := hd
  rw [show ([48] : List UInt8) = c :: t by rw [hc, ht]]
  have hl : t.length = 0 := by rw [ht]; rfl
  have hs : (bs (c :: t)).size = 1 := by rw [bs_size, List.length_cons, hl]
  have hg : ∀ h, (c :: t)[0]'h = c := fun _ => rfl
  have h48' : ((c.toNat : Int) == 48) = true := beq_iff_eq.2 (c48.2 hc)
  have hc45 : ((c.toNat : Int) == 45) = false := beq_eq_false_iff_ne.2 fun e => by have := c48.2 hc; omega
  have HM : SgOk false c t := ⟨fun _ => by rw [hc]; decide, fun e => ⟨ht, rfl⟩⟩
  clear hc ht
  go_enter Try.func13, Try.ntmps13
  go_wp2_with fail
  go_step3
  go_wp2_with fail
  go_step3
  go_wp2_with fail
  go_loopg [7, 42] (t.length + 1) (PLoop w (c :: t) (w.heap.size + 1))
  case atStart => exact ⟨0, 0, true, by simp, PRel.start _, rfl, rfl, ⟨by simp [go_sem, hi_0], by simp [go_sem, lo_0], by simp [go_sem], by simp [go_sem]⟩, ⟨by simp [go_sem], by simp [go_sem], by simp [go_sem], by simp [go_sem]⟩, by omega, (by repeat (first | assumption | exact Below.refl _ _ | refine Below.setCell ?_ (by first | exact Nat.le_refl _ | (simp; done) | (simp; omega) | omega) _ | refine Below.alloc ?_ (by first | exact Nat.le_refl _ | (simp; done) | (simp; omega) | omega) _ | refine Below.drew ?_ | exact Nat.le_refl _))⟩
  case round =>
    obtain ⟨k, o, fb, hk, hr, rfl, rfl, ⟨p1, p2, p3, p4⟩, ⟨q1, q2, q3, q4⟩, hgt, hbe⟩ := hrel
    have HR := Lib.hid hr
    by_cases hlt : k < t.length + 1
    · have hom := hr.om
      clear hr
      have hlt' : k < (c :: t).length := by simpa using hlt
      obtain ⟨ck, hck⟩ : ∃ x, x = (c :: t)[k]'hlt' := ⟨_, rfl⟩
      have HCK := Lib.hid hck
      clear hck
      have HK := Lib.hid hk
      clear hk
      go_wp2_with fail
      obtain ⟨wo, rfl⟩ : ∃ wo : World, wo = wr := ⟨_, rfl⟩
      obtain ⟨g0, rfl⟩ : ∃ g : Nat, g = gk := ⟨_, rfl⟩
      go_loopg [7, 45] 10 (fun g2 s7 s45 wy => ∃ j : Nat, j + g2 = 10 ∧ s7 = .bool fb ∧ s45 = .int .i64 j ∧ (∀ i, i < j → ¬ ck.toNat = 48 + i) ∧ Below wo.heap.size wo wy)
      case atStart => exact ⟨0, rfl, rfl, rfl, fun i hi => by omega, Below.refl _ _⟩
      case round =>
        obtain ⟨j, hj, rfl, rfl, hno, hby⟩ := hrel
        have HNO := Lib.hid hno
        clear hno
        have HJ := Lib.hid hj
        clear hj
        obtain ⟨s1, s2, s3, s4⟩ := later2 hby p1 p2 p3 p4
        obtain ⟨t1, t2, t3, t4⟩ := later2 hby q1 q2 q3 q4
        have b1 := bl2 hby hbe
        clear p1 p2 p3 p4 q1 q2 q3 q4
        by_cases hj10 : j < 10
        · have hx : ∀ h, (c :: t)[k]'h = ck := fun _ => HCK.out.symm
          have hdg := dig_get j hj10
          have hd : ((UInt8.ofNat (48 + j)).toNat : Int) = 48 + j := by simp; omega
          generalize UInt8.ofNat (48 + j) = d at *
          by_cases he : (ck.toNat : Int) = d.toNat
          · have he' := beq_iff_eq.2 he
            have HE := Lib.hid (he.trans hd)
            clear he hd
            go_wp2_with fail
            refine Reg.region_quiet (by kernel_rfl) (by kernel_rfl) ?_
            iterate 6 (first | go_big_quiet_skip | (go_big_quiet_want; (first | (go_big_quiet_op; go_big_quiet_on) | (apply Reg.quiet_run; (intro W hW; skip; go_simp; (first | done | rfl | exact ⟨rfl, rfl⟩ )); (simp only [Act.put, List.setIfInBounds_toArray, List.set_cons_zero, List.set_cons_succ]; go_big_quiet_on)) | (apply Reg.quiet_call; (intro W hW; go_simp; (first | done | rfl | exact ⟨rfl, rfl⟩)); (intro W hW; (first | fail)); (simp only [Act.put, List.setIfInBounds_toArray, List.set_cons_zero, List.set_cons_succ]; go_big_quiet_on)))))
            refine wpQuiet_nil ?_
            intro w1 hW
            have hb1 : Below wr.heap.size wr w1 := hW
            clear hW
            obtain ⟨p1, p2, p3, p4⟩ := later2 hb1 s1 s2 s3 s4
            obtain ⟨q1, q2, q3, q4⟩ := later2 hb1 t1 t2 t3 t4
            have b2 := bl2 hb1 b1
            clear s1 s2 s3 s4 t1 t2 t3 t4 hb1 hby b1
            have hd := HE.out
            have hdig : isDig ((c :: t)[k]'hlt') = true := (isDig_iff _).2 (by rw [← HCK.out]; omega)
            have hj' : (((c :: t)[k]'hlt').toNat : Int) - 48 = j := by rw [← HCK.out]; omega
            by_cases hf : o * 10 + (j : Int) ≤ 340282366920938463463374607431768211455
            · have HY := Lib.hid (fun W => times_yes o 10 (j : Int) W hom (by unfold U64; omega) (by unfold U64; omega) hf)
              have hN : PRel (c :: t) (k + 1) (o * 10 + (j : Int)) fb := by
                have := HR.out
                rw [← hj'] at hf ⊢
                cases fb with
                | true => exact this.yes hlt' hdig hf
                | false => exact this.lost hlt' hdig (by unfold U128; unfold U128 at hom; omega)
              have HN := Lib.hid hN
              clear hN hf hd hj' hdig hx hdg he'
              generalize o * 10 + (j : Int) = o2 at *
              go_wp2_with fail
              refine (HY.out _).mono ?_
              rintro e w3 ⟨rfl, hb3⟩
              obtain ⟨xc, xd, xf, xg⟩ := later2 hb3 (g := w.heap.size) (u := .int .i64 0) (v := .int .u64 0) (by simp [go_sem, *]) (by simp [go_sem, *]) (by simp [go_sem, *]) (by simp [go_sem, *])
              have xz : w.heap.size < w3.heap.size := World.block_lt_of_cell? _ _ xc
              obtain ⟨yc, yd, yf, yg⟩ := later2 hb3 (g := w.heap.size + 1) (u := .int .u64 (hi o)) (v := .int .u64 (lo o)) (by simp [go_sem, *]) (by simp [go_sem, *]) (by simp [go_sem, *]) (by simp [go_sem, *])
              have yz : w.heap.size + 1 < w3.heap.size := World.block_lt_of_cell? _ _ yc
              have b3 : Below w.heap.size w w3 := bl2 hb3 b2
              clear hb3 p1 p2 p3 p4 q1 q2 q3 q4 b2
              cases fb
              all_goals
                go_wp2_with fail
                go_roundg (g0 - 1)
                case measure => have := HK.out; simp at this; omega
                case rel =>
                  refine ⟨k + 1, o2, _, by have := HK.out; simp at this ⊢; omega, HN.out, rfl, by go_num, ⟨?_, ?_, ?_, ?_⟩, ⟨?_, ?_, ?_, ?_⟩, hgt, ?_⟩
                  all_goals (first | (simp [go_sem, *]; done) | exact (by repeat (first | assumption | exact Below.refl _ _ | refine Below.setCell ?_ (by first | exact Nat.le_refl _ | (simp; done) | (simp; omega) | omega) _ | refine Below.alloc ?_ (by first | exact Nat.le_refl _ | (simp; done) | (simp; omega) | omega) _ | refine Below.drew ?_ | exact Nat.le_refl _)))
            · have HY := Lib.hid (fun W => times_not o 10 (j : Int) W hom (by unfold U64; omega) (by unfold U64; omega) (by omega))
              have hN : ∀ o' : Int, U128 o' → PRel (c :: t) (k + 1) o' false := by
                intro o' ho'
                have := HR.out
                rw [← hj'] at hf
                cases fb with
                | true => exact this.no hlt' hdig (by omega) ho'
                | false => exact this.lost hlt' hdig ho'
              have HN := Lib.hid hN
              clear hN hf hd hj' hdig hx hdg he'
              go_wp2_with fail
              refine (HY.out _).mono ?_
              rintro e w3 ⟨a', b', rfl, ua, ub, hb3⟩
              obtain ⟨xc, xd, xf, xg⟩ := later2 hb3 (g := w.heap.size) (u := .int .i64 0) (v := .int .u64 0) (by simp [go_sem, *]) (by simp [go_sem, *]) (by simp [go_sem, *]) (by simp [go_sem, *])
              have xz : w.heap.size < w3.heap.size := World.block_lt_of_cell? _ _ xc
              obtain ⟨yc, yd, yf, yg⟩ := later2 hb3 (g := w.heap.size + 1) (u := .int .u64 (hi o)) (v := .int .u64 (lo o)) (by simp [go_sem, *]) (by simp [go_sem, *]) (by simp [go_sem, *]) (by simp [go_sem, *])
              have yz : w.heap.size + 1 < w3.heap.size := World.block_lt_of_cell? _ _ yc
              have b3 : Below w.heap.size w w3 := bl2 hb3 b2
              clear hb3 p1 p2 p3 p4 q1 q2 q3 q4 b2
              cases fb
              all_goals
                go_wp2_with fail
                go_roundg (g0 - 1)
                case measure => have := HK.out; simp at this; omega
                case rel =>
                  refine ⟨k + 1, val a' b', _, by have := HK.out; simp at this ⊢; omega, HN.out _ (val_bdu ua ub), rfl, by go_num, ⟨?_, ?_, ?_, ?_⟩, ⟨?_, ?_, ?_, ?_⟩, hgt, ?_⟩
                  all_goals (first | (simp [go_sem, hi_val ub, lo_val ub, *]; done) | exact (by repeat (first | assumption | exact Below.refl _ _ | refine Below.setCell ?_ (by first | exact Nat.le_refl _ | (simp; done) | (simp; omega) | omega) _ | refine Below.alloc ?_ (by first | exact Nat.le_refl _ | (simp; done) | (simp; omega) | omega) _ | refine Below.drew ?_ | exact Nat.le_refl _)))
          · have he' := beq_eq_false_iff_ne.2 he
            have HE := Lib.hid (show (ck.toNat : Int) ≠ 48 + j from fun e => he (e.trans hd.symm))
            clear he hd
            go_wp2_with fail
            refine Reg.region_quiet (by kernel_rfl) (by kernel_rfl) ?_
            iterate 6 (first | go_big_quiet_skip | (go_big_quiet_want; (first | (go_big_quiet_op; go_big_quiet_on) | (apply Reg.quiet_run; (intro W hW; skip; go_simp; (first | done | rfl | exact ⟨rfl, rfl⟩ )); (simp only [Act.put, List.setIfInBounds_toArray, List.set_cons_zero, List.set_cons_succ]; go_big_quiet_on)) | (apply Reg.quiet_call; (intro W hW; go_simp; (first | done | rfl | exact ⟨rfl, rfl⟩)); (intro W hW; (first | fail)); (simp only [Act.put, List.setIfInBounds_toArray, List.set_cons_zero, List.set_cons_succ]; go_big_quiet_on)))))
            refine wpQuiet_nil ?_
            intro w1 hW
            have hb1 : Below wr.heap.size wr w1 := hW
            have by1 := bl2 hb1 hby
            clear hW hb1 hby
            go_wp2_with fail
            go_roundg (gk - 1)
            case measure => have := HJ.out; omega
            case rel =>
              refine ⟨j + 1, by have := HJ.out; omega, rfl, by go_num, fun i hi => ?_, by1⟩
              by_cases e : i = j
              · subst e; have := HE.out; omega
              · exact HNO.out i (by omega)
        · have HB := Lib.hid (sg_no (m := false) HM hlt' (show isDig ((c :: t)[k]'hlt') = false by rw [← HCK.out]; exact dig_none fun i hi => HNO.out i (by omega)))
          go_wp2_with fail
          try rw [Exit.noGoto_ret]
          simp [bodyPost, results, Try.results13, go_sem, *]
          exact post_bad HB.out (by repeat (first | assumption | exact Below.refl _ _ | refine Below.setCell ?_ (by first | exact Nat.le_refl _ | (simp; done) | (simp; omega) | omega) _ | refine Below.alloc ?_ (by first | exact Nat.le_refl _ | (simp; done) | (simp; omega) | omega) _ | refine Below.drew ?_ | exact Nat.le_refl _))
    · have hkl : k = (c :: t).length := by have := hr.le; simp at this ⊢; omega
      have hkt : k = t.length + 1 := by simpa using hkl
      have hr2 : PRel (c :: t) (c :: t).length o fb := hkl ▸ hr
      obtain ⟨hall, hval, hfit⟩ := hr2.end_
      obtain ⟨hv1, hv2⟩ := sg_yes (m := false) HM hall
      have hom := hr.om
      clear hr HR hk hkl hr2
      subst hkt
      cases fb with
      | false =>
        have HO := Lib.hid (show ¬ I128 (num (sgt false (c :: t))) by rw [hv2]; exact sg_over (by have := of_decide_eq_false hfit.symm; omega))
        have HV := Lib.hid hv1
        clear hv1 hv2 hval hfit hall
        go_wp2_with fail
        try rw [Exit.noGoto_ret]
        simp [bodyPost, results, Try.results13, go_sem, *]
        exact post_over HV.out HO.out (by repeat (first | assumption | exact Below.refl _ _ | refine Below.setCell ?_ (by first | exact Nat.le_refl _ | (simp; done) | (simp; omega) | omega) _ | refine Below.alloc ?_ (by first | exact Nat.le_refl _ | (simp; done) | (simp; omega) | omega) _ | refine Below.drew ?_ | exact Nat.le_refl _))
      | true =>
        have hov := hval rfl
        have hz : false = true → o ≠ 0 := fun h => by cases h
        have HS := Lib.hid (fun W => signed_sgv false o W hom hz)
        rw [← hov] at hv2
        have HV := Lib.hid hv1
        have HN := Lib.hid hv2
        clear hv1 hv2 hval hfit hall hov hz
        go_wp2_with fail
        refine (HS.out _).mono ?_
        rintro e w3 ⟨rfl, hb3⟩
        obtain ⟨xc, xd, xf, xg⟩ := later2 hb3 (g := w.heap.size) (u := .int .i64 0) (v := .int .u64 0) (by simp [go_sem, *]) (by simp [go_sem, *]) (by simp [go_sem, *]) (by simp [go_sem, *])
        have xz : w.heap.size < w3.heap.size := World.block_lt_of_cell? _ _ xc
        have b3 : Below w.heap.size w w3 := bl2 hb3 hbe
        clear hb3 p1 p2 p3 p4 q1 q2 q3 q4 hbe
        go_wp2_with fail
        try rw [Exit.noGoto_ret]
        simp [bodyPost, results, Try.results13, go_sem, *]
        exact post_fit HV.out HN.out (by repeat (first | assumption | exact Below.refl _ _ | refine Below.setCell ?_ (by first | exact Nat.le_refl _ | (simp; done) | (simp; omega) | omega) _ | refine Below.alloc ?_ (by first | exact Nat.le_refl _ | (simp; done) | (simp; omega) | omega) _ | refine Below.drew ?_ | exact Nat.le_refl _))

theorem parse_nil (w : World) :
    Calls Try.prog 13 #[.string (bs [])] w (ParsePost w []) := by
  have HB := Lib.hid (show valid [] = false from rfl)
  have hs : (bs []).size = 0 := bs_size _
  go_enter Try.func13, Try.ntmps13
  go_wp2_with fail
  go_step3
  go_wp2_with fail
  all_goals
    try rw [Exit.noGoto_ret]
    simp [bodyPost, results, Try.results13, go_sem]
    exact post_bad HB.out (by repeat (first | assumption | exact Below.refl _ _ | refine Below.setCell ?_ (by first | exact Nat.le_refl _ | (simp; done) | (simp; omega) | omega) _ | refine Below.alloc ?_ (by first | exact Nat.le_refl _ | (simp; done) | (simp; omega) | omega) _ | refine Below.drew ?_ | exact Nat.le_refl _))

theorem parse_dash (w : World) :
    Calls Try.prog 13 #[.string (bs [45])] w (ParsePost w [45]) := by
  have HB := Lib.hid (show valid [45] = false from by decide)
  have hs : (bs [45]).size = 1 := bs_size _
  have hg : ∀ h, ([45] : List UInt8)[0]'h = (45 : UInt8) := fun _ => rfl
  have hcut : (bs [45]).extract 1 1 = bs [] := bs_tail 45 []
  have hs0 : (bs []).size = 0 := bs_size _
  go_enter Try.func13, Try.ntmps13
  go_wp2_with fail
  go_step3
  go_wp2_with fail
  all_goals
    try rw [Exit.noGoto_ret]
    simp [bodyPost, results, Try.results13, go_sem]
    exact post_bad HB.out (by repeat (first | assumption | exact Below.refl _ _ | refine Below.setCell ?_ (by first | exact Nat.le_refl _ | (simp; done) | (simp; omega) | omega) _ | refine Below.alloc ?_ (by first | exact Nat.le_refl _ | (simp; done) | (simp; omega) | omega) _ | refine Below.drew ?_ | exact Nat.le_refl _))

theorem parse_zeros (c : UInt8) (t : List UInt8) (w : World) (hl : t.length ≤ 198) :
    Calls Try.prog 13 #[.string (bs (48 :: c :: t))] w (ParsePost w (48 :: c :: t)) := by
  have HB := Lib.hid (show valid (48 :: c :: t) = false from by simp [valid, numB])
  have hs : (bs (48 :: c :: t)).size = t.length + 2 := bs_size _
  have hg : ∀ h, (48 :: c :: t)[0]'h = (48 : UInt8) := fun _ => rfl
  go_enter Try.func13, Try.ntmps13
  go_wp2_with fail
  go_step3
  go_wp2_with fail
  all_goals
    try rw [Exit.noGoto_ret]
    simp [bodyPost, results, Try.results13, go_sem]
    exact post_bad HB.out (by repeat (first | assumption | exact Below.refl _ _ | refine Below.setCell ?_ (by first | exact Nat.le_refl _ | (simp; done) | (simp; omega) | omega) _ | refine Below.alloc ?_ (by first | exact Nat.le_refl _ | (simp; done) | (simp; omega) | omega) _ | refine Below.drew ?_ | exact Nat.le_refl _))

theorem parse_dzero (t : List UInt8) (w : World) (hl : t.length ≤ 198) :
    Calls Try.prog 13 #[.string (bs (45 :: 48 :: t))] w (ParsePost w (45 :: 48 :: t)) := by
  have HB := Lib.hid (show valid (45 :: 48 :: t) = false from by simp [valid])
  have hs : (bs (45 :: 48 :: t)).size = t.length + 2 := bs_size _
  have hg : ∀ h, (45 :: 48 :: t)[0]'h = (45 : UInt8) := fun _ => rfl
  have hcut : (bs (45 :: 48 :: t)).extract 1 (t.length + 2) = bs (48 :: t) := bs_tail 45 (48 :: t)
  have hs2 : (bs (48 :: t)).size = t.length + 1 := bs_size _
  have hg2 : ∀ h, (48 :: t)[0]'h = (48 : UInt8) := fun _ => rfl
  go_enter Try.func13, Try.ntmps13
  go_wp2_with fail
  go_step3
  go_wp2_with fail
  all_goals
    try rw [Exit.noGoto_ret]
    simp [bodyPost, results, Try.results13, go_sem]
    exact post_bad HB.out (by repeat (first | assumption | exact Below.refl _ _ | refine Below.setCell ?_ (by first | exact Nat.le_refl _ | (simp; done) | (simp; omega) | omega) _ | refine Below.alloc ?_ (by first | exact Nat.le_refl _ | (simp; done) | (simp; omega) | omega) _ | refine Below.drew ?_ | exact Nat.le_refl _))
end
theorem parse_any (l : List UInt8) (w : World) (hl : l.length ≤ 200) : Calls Try.prog 13 #[.string (bs l)] w (ParsePost w l) := by
  match l, hl with
  | [], _ => exact parse_nil w
  | c :: t, hl =>
    simp at hl
    by_cases h45 : c = 45
    · subst h45
      match t, hl with
      | [], _ => exact parse_dash w
      | d :: u, hl =>
        simp at hl
        by_cases h48 : d = 48
        · subst h48
          exact parse_dzero u w (by omega)
        · exact parse_minus d u w (by omega) h48
    · by_cases h48 : c = 48
      · subst h48
        match t, hl with
        | [], _ => exact parse_zero w
        | d :: u, hl =>
          simp at hl
          exact parse_zeros d u w (by omega)
      · exact parse_body c t w (by omega) h45 h48
end Go.Proofs.Ytmdomlfkehhleaa.Wt
