/-
  The contract of the reference's Parse.
-/
import Derived.Test.YtmdomlfkehhleaaParse
import Derived.Test.YtmdomlfkehhleaaRPlus
import Derived.Test.YtmdomlfkehhleaaReg2
namespace Go.Proofs.Ytmdomlfkehhleaa.Wt
open Go.RowKit
open Go.Proofs.Ytmdomlfkehhleaa
open Go.Proofs.Ytmdomlfkehhleaa.Wm
open Go.Proofs.Ytmdomlfkehhleaa.Tx

/-- What the loop holds: off places stand ahead of the digits. -/
def RPLoop (w : World) (t : List UInt8) (off : Nat) (g : Nat) (vf vi : Value) (wr : World) : Prop := ∃ (i k : Nat) (o : Int) (fb : Bool), i + g = t.length + off ∧ (i = k + off ∨ (i = 0 ∧ off = 1 ∧ k = 0)) ∧ PRel t k o fb ∧ vf = .bool fb ∧ vi = .int .i64 i ∧
  Two wr (w.heap.size + 1) (.int .u64 (hi o)) (.int .u64 (lo o)) ∧ Two wr w.heap.size (.int .i64 0) (.int .u64 0) ∧ Below w.heap.size w wr
theorem hi_small {d : Int} (h0 : 0 ≤ d) (h : d ≤ 9) : hi d = 0 ∧ lo d = d := by unfold hi lo; omega
theorem rp_next {t : List UInt8} {k : Nat} {o o1 o2 d : Int} {fb f2 : Bool} (hr : PRel t k o fb) (hk : k < t.length) (hd : isDig t[k] = true) (e : d = (t[k].toNat : Int) - 48)
    (h1 : o * 10 ≤ maxM → o1 = o * 10) (u2 : U128 o2) (h2 : f2 = decide (o1 + d ≤ 340282366920938463463374607431768211455)) (h3 : f2 = true → o2 = o1 + d) :
    PRel t (k + 1) o2 (fb && (decide (o * 10 ≤ maxM) && f2)) := by
  subst e
  have hdb := isDig_bd hd
  unfold maxM at *
  cases fb with
  | false => exact hr.lost hk hd u2
  | true =>
    by_cases hA : o * 10 ≤ 340282366920938463463374607431768211455
    · have e1 := h1 hA
      rw [decide_eq_true hA]
      by_cases hB : o1 + ((t[k].toNat : Int) - 48) ≤ 340282366920938463463374607431768211455
      · have hf : f2 = true := by rw [h2]; exact decide_eq_true hB
        rw [hf, h3 hf, e1]
        exact hr.yes hk hd (by rw [← e1]; exact hB)
      · have hf : f2 = false := by rw [h2]; exact decide_eq_false hB
        rw [hf]
        exact hr.no hk hd (by rw [← e1]; omega) u2
    · rw [decide_eq_false hA]
      exact hr.no hk hd (by omega) u2

theorem post_in {w w' : World} {l : List UInt8} {p : Int} (h : valid l = true) (hn : num l = p) (hp : I128 p) (hb : Below w.heap.size w w') : ParsePost w l (.returned (.tuple #[.agg #[.int .i64 (hi p), .int .u64 (lo p)], .int .i64 0])) w' := by
  unfold ParsePost; rw [if_pos h, hn]; exact wsum_in hp hb
section
attribute [local go_sem] bs_get bs_list
set_option maxRecDepth 4000 in
set_option maxHeartbeats 4000000 in
theorem rparse_no (l : List UInt8) (w : World) (hl : l.length ≤ 200) (hv : valid l = false) :
    Calls Try.prog 14 #[.string (bs l)] w (ParsePost w l) := by
  have HB := Lib.hid hv
  have hd := fun W => decimal_any l W hl
  rw [decB_eq, hv] at hd
  have HD := Lib.hid hd
  clear hd hv
  go_enter Try.func14, Try.ntmps14
  go_wp2_with fail
  refine (HD.out _).mono ?_
  rintro e w' ⟨rfl, rfl⟩
  go_wp2_with fail
  simp [bodyPost, results, Try.results14, go_sem]
  exact post_bad HB.out (by repeat (first | assumption | exact Below.refl _ _ | refine Below.setCell ?_ (by first | exact Nat.le_refl _ | (simp; done) | (simp; omega) | omega) _ | refine Below.alloc ?_ (by first | exact Nat.le_refl _ | (simp; done) | (simp; omega) | omega) _ | refine Below.drew ?_ | exact Nat.le_refl _))

set_option maxRecDepth 4000 in
set_option maxHeartbeats 8000000 in
theorem rparse_yes (m : Bool) (T : List UInt8) (s : List UInt8) (off : Nat) (w : World) (hl : s.length ≤ 200) (hsl : s.length = T.length + off) (hs0 : 0 < s.length) (hoff : off ≤ 1) (hm : m = decide (off = 1))
    (hfirst : ∀ h, s[0]'h = 45 ↔ off = 1) (hat : ∀ (k : Nat) (h : k < T.length), ∃ h', s[k + off]'h' = T[k]) (hv : valid s = true) (hall : T.all isDig = true) (hnum : num s = sgv m (val10 T)) :
    Calls Try.prog 14 #[.string (bs s)] w (ParsePost w s) := by
  have hd := fun W => decimal_any s W hl
  rw [decB_eq, hv] at hd
  have HD := Lib.hid hd
  clear hd
  have hs : (bs s).size = s.length := bs_size _
  have HV := Lib.hid hv
  have HN := Lib.hid hnum
  have HA := Lib.hid hat
  have HF := Lib.hid hfirst
  have HL := Lib.hid hsl
  have HALL := Lib.hid hall
  have HM := Lib.hid hm
  obtain ⟨c0, hc0⟩ : ∃ c, c = s[0]'hs0 := ⟨_, rfl⟩
  have hx0 : ∀ h, s[0]'h = c0 := fun _ => hc0.symm
  have h45 : ((c0.toNat : Int) == 45) = m := by
    rw [hm, hc0]
    by_cases e : off = 1
    · rw [beq_iff_eq.2 (c45.2 ((hfirst hs0).2 e)), decide_eq_true e]
    · rw [beq_eq_false_iff_ne.2 fun h => e ((hfirst hs0).1 (c45.1 h)), decide_eq_false e]
  have H45 := Lib.hid h45
  clear hv hnum hat hfirst hsl hall hm hc0
  go_enter Try.func14, Try.ntmps14
  go_wp2_with fail
  refine (HD.out _).mono ?_
  rintro e w' ⟨rfl, rfl⟩
  clear HD
  go_wp2_with fail
  clear h45
  go_loopg [6, 7] (T.length + off) (RPLoop w T off)
  case atStart =>
    refine ⟨0, 0, 0, true, by omega, ?_, PRel.start _, rfl, rfl, ⟨by simp [go_sem, hi_0], by simp [go_sem, lo_0], by simp [go_sem], by simp [go_sem]⟩, ⟨by simp [go_sem], by simp [go_sem], by simp [go_sem], by simp [go_sem]⟩, (by repeat (first | assumption | exact Below.refl _ _ | refine Below.setCell ?_ (by first | exact Nat.le_refl _ | (simp; done) | (simp; omega) | omega) _ | refine Below.alloc ?_ (by first | exact Nat.le_refl _ | (simp; done) | (simp; omega) | omega) _ | refine Below.drew ?_ | exact Nat.le_refl _))⟩
    by_cases e : off = 1
    · exact .inr ⟨rfl, e, rfl⟩
    · exact .inl (by omega)
  case round =>
    obtain ⟨i, k, o, fb, hk, hik, hr, rfl, rfl, ⟨p1, p2, p3, p4⟩, ⟨q1, q2, q3, q4⟩, hbe⟩ := hrel
    have hgz : w.heap.size < wr.heap.size := World.block_lt_of_cell? _ _ q1
    have HR := Lib.hid hr
    have HK := Lib.hid hk
    clear hk
    by_cases hlt : i < s.length
    · clear hr
      rcases hik with hik | ⟨hi0, ho1, hk0⟩
      · have hkt : k < T.length := by have := HL.out; omega
        obtain ⟨c, hc⟩ : ∃ c, c = T[k]'hkt := ⟨_, rfl⟩
        have hdig : isDig c = true := by rw [hc]; exact List.all_eq_true.1 HALL.out _ (List.getElem_mem hkt)
        have hx : ∀ h, s[i]'h = c := fun h => by
          obtain ⟨h', e⟩ := HA.out k hkt
          subst hik
          rw [hc, ← e]
        have hd := isDig_bd hdig
        have hne45 : ((c.toNat : Int) == 45) = false := beq_eq_false_iff_ne.2 (by omega)
        obtain ⟨d0, d9⟩ := hd
        have d48 : 48 ≤ (c.toNat : Int) := by omega
        have d57 : (c.toNat : Int) ≤ 57 := by omega
        have hom := HR.out.om
        obtain ⟨z1, z2⟩ := hi_small d0 d9
        have HT := Lib.hid (fun W => rtimes_any o 10 W hom (by unfold U64; omega))
        have HI := Lib.hid hik
        have HC := Lib.hid hc
        clear hik hc hdig
        go_wp2_with fail
        refine (HT.out _).mono ?_
        rintro e w1 ⟨o1, u1, rfl, h1, hb1⟩
        obtain ⟨xc, xd, xf, xg⟩ := later2 hb1 (g := w.heap.size) (u := .int .i64 0) (v := .int .u64 0) (by simp [go_sem, *]) (by simp [go_sem, *]) (by simp [go_sem, *]) (by simp [go_sem, *])
        have xz : w.heap.size < w1.heap.size := World.block_lt_of_cell? _ _ xc
        obtain ⟨yc, yd, yf, yg⟩ := later2 hb1 (g := w.heap.size + 1) (u := .int .u64 (hi o)) (v := .int .u64 (lo o)) (by simp [go_sem, *]) (by simp [go_sem, *]) (by simp [go_sem, *]) (by simp [go_sem, *])
        have yz : w.heap.size + 1 < w1.heap.size := World.block_lt_of_cell? _ _ yc
        have b1 : Below w.heap.size w w1 := bl2 hb1 hbe
        clear hb1 p1 p2 p3 p4 q1 q2 q3 q4 hbe
        obtain ⟨o2, f2, u2, g1, g2, hP⟩ := rplus_w o1 ((c.toNat : Int) - 48) u1 (by unfold U128; omega)
        rw [z1, z2] at hP
        have HP := Lib.hid hP
        have HX := Lib.hid (rp_next HR.out hkt (by rw [← HC.out]; unfold isDig; simp; omega) (by rw [← HC.out]) h1 u2 g1 g2)
        clear hP h1 g1 g2 z1 z2
        generalize decide (o * 10 ≤ maxM) = f1 at *
        have hnone : True := trivial
        cases fb <;> cases f1 <;> cases f2
        all_goals
          go_wp2_with fail
          have hb2 : Below (w1).heap.size (w1) ((w1).alloc (.cells #[.int .u64 (hi o1), .int .u64 (lo o1)] 53)) := (Below.refl _ _).alloc (Nat.le_refl _) _
          have nc : ((w1).alloc (.cells #[.int .u64 (hi o1), .int .u64 (lo o1)] 53)).cell? ⟨(w1).heap.size, 0, none⟩ = some (.int .u64 (hi o1)) := by simp [go_sem]
          have nd : ((w1).alloc (.cells #[.int .u64 (hi o1), .int .u64 (lo o1)] 53)).cell? ⟨(w1).heap.size, 1, none⟩ = some (.int .u64 (lo o1)) := by simp [go_sem]
          have nf : ((w1).alloc (.cells #[.int .u64 (hi o1), .int .u64 (lo o1)] 53)).frozen? ⟨(w1).heap.size, 0, none⟩ = false := by simp [go_sem]
          have ng : ((w1).alloc (.cells #[.int .u64 (hi o1), .int .u64 (lo o1)] 53)).frozen? ⟨(w1).heap.size, 1, none⟩ = false := by simp [go_sem]
          have nz : (w1).heap.size < ((w1).alloc (.cells #[.int .u64 (hi o1), .int .u64 (lo o1)] 53)).heap.size := by simp
          generalize (w1).alloc (.cells #[.int .u64 (hi o1), .int .u64 (lo o1)] 53) = w2 at *
          obtain ⟨ac, ad, af, ag⟩ := later2 hb2 (g := w.heap.size) (u := .int .i64 0) (v := .int .u64 0) (by simp [go_sem, *]) (by simp [go_sem, *]) (by simp [go_sem, *]) (by simp [go_sem, *])
          have az : w.heap.size < w2.heap.size := World.block_lt_of_cell? _ _ ac
          obtain ⟨vc, vd, vf, vg⟩ := later2 hb2 (g := w.heap.size + 1) (u := .int .u64 (hi o)) (v := .int .u64 (lo o)) (by simp [go_sem, *]) (by simp [go_sem, *]) (by simp [go_sem, *]) (by simp [go_sem, *])
          have vz : w.heap.size + 1 < w2.heap.size := World.block_lt_of_cell? _ _ vc
          have b2 : Below w.heap.size w w2 := bl2 hb2 b1
          clear hb2 xc xd xf xg yc yd yf yg b1
          have hw8 : IntKind.u8.wrap ((c.toNat : Int) - 48) = (c.toNat : Int) - 48 := by rw [IntKind.wrap_u8]; omega
          have hw64 : IntKind.u64.wrap ((c.toNat : Int) - 48) = (c.toNat : Int) - 48 := by rw [IntKind.wrap_u64]; omega
          refine Reg.region_tail_e 11 [(10, 11)] (by kernel_rfl) (by kernel_rfl) (by kernel_rfl) (fun d _ _ _ _ h => by cases d <;> exact h) ?_
          simp only [Reg.edges, Reg.edge, List.take_succ_cons, List.take_zero]
          iterate 11 (first | go_big_quiet_skip | (go_big_quiet_want; (first | (go_big_quiet_op; go_big_quiet_on) | (apply Reg.quiet_run; (intro W hW; have q1 := hW.cell nc; have q2 := hW.cell nd; go_simp; (first | done | rfl | exact ⟨rfl, rfl⟩ )); (simp only [Act.put, List.setIfInBounds_toArray, List.set_cons_zero, List.set_cons_succ]; go_big_quiet_on)) | (apply Reg.quiet_call; (intro W hW; go_simp; (first | done | rfl | exact ⟨rfl, rfl⟩)); (intro W hW; (first | (go_at_call 37; exact Reg.cls_call hW (HP.out _)))); (simp only [Act.put, List.setIfInBounds_toArray, List.set_cons_zero, List.set_cons_succ]; go_big_quiet_on)))))
          refine wpQuiet_nil ?_
          intro w3 hW
          have hb3 : Below w2.heap.size w2 w3 := hW
          clear hW
          obtain ⟨xc, xd, xf, xg⟩ := later2 hb3 (g := w.heap.size) (u := .int .i64 0) (v := .int .u64 0) (by simp [go_sem, *]) (by simp [go_sem, *]) (by simp [go_sem, *]) (by simp [go_sem, *])
          have xz : w.heap.size < w3.heap.size := World.block_lt_of_cell? _ _ xc
          obtain ⟨yc, yd, yf, yg⟩ := later2 hb3 (g := w.heap.size + 1) (u := .int .u64 (hi o)) (v := .int .u64 (lo o)) (by simp [go_sem, *]) (by simp [go_sem, *]) (by simp [go_sem, *]) (by simp [go_sem, *])
          have yz : w.heap.size + 1 < w3.heap.size := World.block_lt_of_cell? _ _ yc
          obtain ⟨pc, pd, pf, pg⟩ := later2 hb3 (g := w1.heap.size) (u := .int .u64 (hi o1)) (v := .int .u64 (lo o1)) (by simp [go_sem, *]) (by simp [go_sem, *]) (by simp [go_sem, *]) (by simp [go_sem, *])
          have pz : w1.heap.size < w3.heap.size := World.block_lt_of_cell? _ _ pc
          have b3 : Below w.heap.size w w3 := bl2 hb3 b2
          clear hb3 ac ad af ag vc vd vf vg nc nd nf ng b2 hw8 hw64
          simp only [List.drop_succ_cons, List.drop_zero]
          go_wp2_with fail
          go_roundg (gk - 1)
          case measure => have := HK.out; have := HL.out; omega
          case rel =>
            refine ⟨i + 1, k + 1, o2, _, by have := HK.out; have := HL.out; omega, .inl (by have := HI.out; omega), HX.out, rfl, by go_num, ⟨?_, ?_, ?_, ?_⟩, ⟨?_, ?_, ?_, ?_⟩, ?_⟩
            all_goals (first | (simp [go_sem, *]; done) | exact (by repeat (first | assumption | exact Below.refl _ _ | refine Below.setCell ?_ (by first | exact Nat.le_refl _ | (simp; done) | (simp; omega) | omega) _ | refine Below.alloc ?_ (by first | exact Nat.le_refl _ | (simp; done) | (simp; omega) | omega) _ | refine Below.drew ?_ | exact Nat.le_refl _)))
      · subst hi0 ho1 hk0
        have h45 : ((c0.toNat : Int) == 45) = true := by rw [H45.out, HM.out]; rfl
        go_wp2_with fail
        go_roundg (gk - 1)
        case measure => have := HK.out; have := HL.out; omega
        case rel =>
          exact ⟨1, 0, o, fb, by have := HK.out; have := HL.out; omega, .inl rfl, HR.out, rfl, by go_num, ⟨p1, p2, p3, p4⟩, ⟨q1, q2, q3, q4⟩, hbe⟩
    · have hkl : k = T.length ∧ i = s.length := by have := hr.le; have := HK.out; have := HL.out; omega
      obtain ⟨rfl, rfl⟩ := hkl
      obtain ⟨hall, hval, hfit⟩ := hr.end_
      have hom := hr.om
      clear hr HR hik HK
      cases fb with
      | false =>
        have HO := Lib.hid (show ¬ I128 (num s) by rw [HN.out]; exact sg_over (by have := of_decide_eq_false hfit.symm; omega))
        have HJ := Lib.hid (fun W => join_some o m W hom)
        clear hval hfit hall
        go_wp2_with fail
        refine (HJ.out _).mono ?_
        rintro e w3 ⟨a, b, f, rfl, hb3⟩
        obtain ⟨xc, xd, xf, xg⟩ := later2 hb3 (g := w.heap.size) (u := .int .i64 0) (v := .int .u64 0) (by simp [go_sem, *]) (by simp [go_sem, *]) (by simp [go_sem, *]) (by simp [go_sem, *])
        have xz : w.heap.size < w3.heap.size := World.block_lt_of_cell? _ _ xc
        have b3 : Below w.heap.size w w3 := bl2 hb3 hbe
        clear hb3 p1 p2 p3 p4 q1 q2 q3 q4 hbe
        go_wp2_with fail
        simp [bodyPost, results, Try.results14, go_sem, *]
        exact post_over HV.out HO.out (by repeat (first | assumption | exact Below.refl _ _ | refine Below.setCell ?_ (by first | exact Nat.le_refl _ | (simp; done) | (simp; omega) | omega) _ | refine Below.alloc ?_ (by first | exact Nat.le_refl _ | (simp; done) | (simp; omega) | omega) _ | refine Below.drew ?_ | exact Nat.le_refl _))
      | true =>
        have hov := hval rfl
        have hsg : Sgn m (sgv m o) := by
          have := hom.1
          cases m with
          | true => exact .inl ⟨rfl, by unfold sgv; simp; omega⟩
          | false => exact .inr ⟨rfl, by unfold sgv; simp; omega⟩
        have hab := sg_ab (m := m) hom.1
        have hj := fun W => join_fit (sgv m o) m hsg (by rw [hab]; exact hom) W
        rw [hab] at hj
        have HJ := Lib.hid hj
        have HP := Lib.hid (show num s = sgv m o by rw [HN.out, ← hov])
        clear hval hfit hall hov hab hj hsg
        go_wp2_with fail
        refine (HJ.out _).mono ?_
        rintro e w3 ⟨a, b, f, rfl, hb3, hc⟩
        have HC := Lib.hid hc
        clear hc
        obtain ⟨xc, xd, xf, xg⟩ := later2 hb3 (g := w.heap.size) (u := .int .i64 0) (v := .int .u64 0) (by simp [go_sem, *]) (by simp [go_sem, *]) (by simp [go_sem, *]) (by simp [go_sem, *])
        have xz : w.heap.size < w3.heap.size := World.block_lt_of_cell? _ _ xc
        have b3 : Below w.heap.size w w3 := bl2 hb3 hbe
        clear hb3 p1 p2 p3 p4 q1 q2 q3 q4 hbe
        cases f with
        | false =>
          go_wp2_with fail
          simp [bodyPost, results, Try.results14, go_sem, *]
          refine post_over HV.out ?_ (by repeat (first | assumption | exact Below.refl _ _ | refine Below.setCell ?_ (by first | exact Nat.le_refl _ | (simp; done) | (simp; omega) | omega) _ | refine Below.alloc ?_ (by first | exact Nat.le_refl _ | (simp; done) | (simp; omega) | omega) _ | refine Below.drew ?_ | exact Nat.le_refl _))
          rcases HC.out with ⟨h, _⟩ | ⟨_, h⟩
          · cases h
          · rw [HP.out]; exact h
        | true =>
          have hin : I128 (sgv m o) ∧ a = hi (sgv m o) ∧ b = lo (sgv m o) := by
            rcases HC.out with ⟨_, h⟩ | ⟨h, _⟩
            · exact h
            · cases h
          obtain ⟨hin, rfl, rfl⟩ := hin
          have HI := Lib.hid hin
          clear hin HC
          go_wp2_with fail
          simp [bodyPost, results, Try.results14, go_sem, *]
          exact post_in HV.out HP.out HI.out (by repeat (first | assumption | exact Below.refl _ _ | refine Below.setCell ?_ (by first | exact Nat.le_refl _ | (simp; done) | (simp; omega) | omega) _ | refine Below.alloc ?_ (by first | exact Nat.le_refl _ | (simp; done) | (simp; omega) | omega) _ | refine Below.drew ?_ | exact Nat.le_refl _))
end
theorem rparse_any (l : List UInt8) (w : World) (hl : l.length ≤ 200) : Calls Try.prog 14 #[.string (bs l)] w (ParsePost w l) := by
  cases hv : valid l with
  | false => exact rparse_no l w hl hv
  | true =>
    cases l with
    | nil => simp [valid] at hv
    | cons c t =>
      by_cases hc : c = 45
      · subst hc
        have hv' := hv
        simp [valid, numB] at hv'
        refine rparse_yes true t (45 :: t) 1 w hl rfl (by simp) (by omega) rfl (fun _ => ⟨fun _ => rfl, fun _ => rfl⟩) (fun k h => ⟨by simp; omega, rfl⟩) hv (by simpa using hv'.1.1) ?_
        rfl
      · have hv' := hv
        simp [valid, numB, hc] at hv'
        refine rparse_yes false (c :: t) (c :: t) 0 w hl rfl (by simp) (by omega) rfl (fun _ => ⟨fun h => absurd h hc, fun h => by cases h⟩) (fun k h => ⟨h, rfl⟩) hv (by simpa using hv'.1) ?_
        simp [num, hc, sgv]
end Go.Proofs.Ytmdomlfkehhleaa.Wt
