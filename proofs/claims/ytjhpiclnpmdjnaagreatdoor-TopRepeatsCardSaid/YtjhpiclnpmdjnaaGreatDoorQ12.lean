/-
  Parts of the proof: B8, Smp, B10.
-/
import Derived.Test.YtjhpiclnpmdjnaaGreatDoorQ11
import Derived.Test.YtjhpiclnpmdjnaaGreatDoorQ10
namespace Go.Proofs.YtjhpiclnpmdjnaaGreatDoor.Bm
open Go Go.RowKit
open Go.Proofs.YtjhpiclnpmdjnaaGreatDoor
open Go.Proofs.YtjhpiclnpmdjnaaGreatDoor.Ln (flat flat_len flat_get flat_mem RowIn OwnR Idx bl2 results2_cell Blk_setRow_same Blk_setRow_ne Below_setRow take_at one_at call_wp value_wp SB tk ts z0 z1 z2 z3 z4 z5)
open Go.Proofs.YtjhpiclnpmdjnaaGreatDoor.Sr (GV)
set_option linter.unusedSimpArgs false
set_option linter.unusedVariables false
set_option maxRecDepth 100000

theorem row1 {α : Type} {enc : α → List Value} {W : World} {g : Nat} {x : α} {t : TypeId} (h : Bk.Blk W g (enc x).toArray t) : RowIn enc W (some ⟨g, 0, none⟩) [x] := fun _ => ⟨g, 0, rfl, fun j u hj => by
 rw [Nat.zero_add, h.cell]
 have e : flat enc [x] = enc x := by simp [flat]
 rw [e] at hj
 simpa using hj⟩
theorem mn_info : (Tryz.prog.info? 112).map (fun i => (i.zero, i.size, i.bytes)) = some (some (.agg #[.string .empty, .int .i64 0]), 2, 24) := by kernel_rfl
set_option maxHeartbeats 8000000 in
theorem insM_end (a : Option Addr) (c : Nat) (xs : List Mn) (y : Mn) (gy B : Nat) (w : World) (hr : GV mnenc 2 112 w B (.slice a xs.length c) xs) (hy : Bk.Blk w gy #[.string y.cu, .int .i64 y.am] 112) (hn : xs.length ≤ 100000) (hc : xs.length ≤ c) (hB : B ≤ w.heap.size) :
  Calls Tryz.prog 85 #[.slice a xs.length c, .int .i64 xs.length, .slice (some ⟨gy, 0, none⟩) 1 1] w fun e w' => ∃ g' c', e = .returned (.slice (some ⟨g', 0, none⟩) (xs.length + 1) c') ∧ GV mnenc 2 112 w' B (.slice (some ⟨g', 0, none⟩) (xs.length + 1) c') (xs ++ [y]) ∧ Below B w w' ∧ w.grownBy w' (Value.slice a xs.length c).ownBlock ∧ ((Value.slice a xs.length c).ownBlock = some g' ∨ g' = w.heap.size) := by
 have hcase : (a = none ∧ xs = [] ∧ c = 0) ∨ (∃ ad, a = some ad) := by
  cases a with
  | some ad => exact .inr ⟨ad, rfl⟩
  | none =>
   rcases hr.1.2 with ⟨e, hx⟩ | ⟨g, cap, cur, e, _⟩
   ·have := Value.slice.inj e
    exact .inl ⟨rfl, List.eq_nil_of_length_eq_zero this.2.1, this.2.2⟩
   ·cases e
 rcases hcase with ⟨rfl, rfl, rfl⟩ | ⟨ad, rfl⟩
 ·have HR := Lib.hid hr
  have HY := Lib.hid (row1 (enc := mnenc) (x := y) hy)
  have HB := Lib.hid hB
  clear hr hy hB hc
  have g1 : ((([] : List Mn).length : Int) == (([] : List Mn).length : Int)) = true := beq_self_eq_true _
  go_enter Tryz.func85, Tryz.ntmps85
  go_upto_region 7 with fail
  go_wp2_with (refine app_wl mnenc_len mnenc_one (by decide) (by decide) rfl mn_info Tryz.underlying109 [y] rfl (.tmp 23) (.tmp 24) rfl rfl HR.out (some ⟨gy, 0, none⟩) 1 rfl HY.out (by simp) (by first | (simp; done) | (simp; omega)) HB.out ?_)
  intro g' c' w1 h1 h2 h3 h4
  have H1 := Lib.hid h1
  have H2 := Lib.hid h2
  have H3 := Lib.hid h3
  have H4 := Lib.hid h4
  clear h1 h2 h3 h4
  go_wp2_with fail
  go_ret
  exact ⟨g', c', rfl, H1.out, H2.out, H3.out, H4.out⟩
 ·rcases Nat.eq_or_lt_of_le hc with he | hlt
  ·obtain rfl : c = xs.length := he.symm
   have HR := Lib.hid hr
   have HY := Lib.hid (row1 (enc := mnenc) (x := y) hy)
   have HB := Lib.hid hB
   clear hr hy hB hc
   have g1 : (((xs : List Mn).length : Int) == ((xs : List Mn).length : Int)) = true := beq_self_eq_true _
   go_enter Tryz.func85, Tryz.ntmps85
   go_upto_region 7 with fail
   go_wp2_with (refine app_wl mnenc_len mnenc_one (by decide) (by decide) rfl mn_info Tryz.underlying109 [y] rfl (.tmp 23) (.tmp 24) rfl rfl HR.out (some ⟨gy, 0, none⟩) 1 rfl HY.out (by simp) (by first | (simp; done) | (simp; omega)) HB.out ?_)
   intro g' c' w1 h1 h2 h3 h4
   have H1 := Lib.hid h1
   have H2 := Lib.hid h2
   have H3 := Lib.hid h3
   have H4 := Lib.hid h4
   clear h1 h2 h3 h4
   go_wp2_with fail
   go_ret
   exact ⟨g', c', rfl, H1.out, H2.out, H3.out, H4.out⟩
  ·have HR := Lib.hid hr
   have HY := Lib.hid (row1 (enc := mnenc) (x := y) hy)
   have HB := Lib.hid hB
   clear hr hy hB hc
   have hne : decide ((c : Int) = (xs.length : Int)) = false := decide_eq_false (by omega)
   have g1 : (((xs : List Mn).length : Int) == ((xs : List Mn).length : Int)) = true := beq_self_eq_true _
   go_enter Tryz.func85, Tryz.ntmps85
   go_upto_region 7 with fail
   go_wp2_with (refine app_wl mnenc_len mnenc_one (by decide) (by decide) rfl mn_info Tryz.underlying109 [y] rfl (.tmp 23) (.tmp 24) rfl rfl HR.out (some ⟨gy, 0, none⟩) 1 rfl HY.out (by simp) (by first | (simp; done) | (simp; omega)) HB.out ?_)
   intro g' c' w1 h1 h2 h3 h4
   have H1 := Lib.hid h1
   have H2 := Lib.hid h2
   have H3 := Lib.hid h3
   have H4 := Lib.hid h4
   clear h1 h2 h3 h4
   go_wp2_with fail
   go_ret
   exact ⟨g', c', rfl, H1.out, H2.out, H3.out, H4.out⟩
theorem lg_info : (Tryz.prog.info? 50).map (fun i => (i.zero, i.size, i.bytes)) = some (some (.agg #[.int .i64 0, .int .i64 0, .string .empty]), 3, 32) := by kernel_rfl
set_option maxHeartbeats 8000000 in
theorem insL_end (a : Option Addr) (c : Nat) (xs : List Lg) (y : Lg) (gy B : Nat) (w : World) (hr : GV lgenc 3 50 w B (.slice a xs.length c) xs) (hy : Bk.Blk w gy #[.int .i64 (y).ac, .int .i64 (y).am, .string (y).cu] 50) (hn : xs.length ≤ 100000) (hc : xs.length ≤ c) (hB : B ≤ w.heap.size) :
  Calls Tryz.prog 122 #[.slice a xs.length c, .int .i64 xs.length, .slice (some ⟨gy, 0, none⟩) 1 1] w fun e w' => ∃ g' c', e = .returned (.slice (some ⟨g', 0, none⟩) (xs.length + 1) c') ∧ GV lgenc 3 50 w' B (.slice (some ⟨g', 0, none⟩) (xs.length + 1) c') (xs ++ [y]) ∧ Below B w w' ∧ w.grownBy w' (Value.slice a xs.length c).ownBlock ∧ ((Value.slice a xs.length c).ownBlock = some g' ∨ g' = w.heap.size) := by
 have hcase : (a = none ∧ xs = [] ∧ c = 0) ∨ (∃ ad, a = some ad) := by
  cases a with
  | some ad => exact .inr ⟨ad, rfl⟩
  | none =>
   rcases hr.1.2 with ⟨e, hx⟩ | ⟨g, cap, cur, e, _⟩
   ·have := Value.slice.inj e
    exact .inl ⟨rfl, List.eq_nil_of_length_eq_zero this.2.1, this.2.2⟩
   ·cases e
 rcases hcase with ⟨rfl, rfl, rfl⟩ | ⟨ad, rfl⟩
 ·have HR := Lib.hid hr
  have HY := Lib.hid (row1 (enc := lgenc) (x := y) hy)
  have HB := Lib.hid hB
  clear hr hy hB hc
  have g1 : ((([] : List Lg).length : Int) == (([] : List Lg).length : Int)) = true := beq_self_eq_true _
  go_enter Tryz.func122, Tryz.ntmps122
  go_upto_region 7 with fail
  go_wp2_with (refine app_wl lgenc_len lgenc_one (by decide) (by decide) rfl lg_info Tryz.underlying36 [y] rfl (.tmp 23) (.tmp 24) rfl rfl HR.out (some ⟨gy, 0, none⟩) 1 rfl HY.out (by simp) (by first | (simp; done) | (simp; omega)) HB.out ?_)
  intro g' c' w1 h1 h2 h3 h4
  have H1 := Lib.hid h1
  have H2 := Lib.hid h2
  have H3 := Lib.hid h3
  have H4 := Lib.hid h4
  clear h1 h2 h3 h4
  go_wp2_with fail
  go_ret
  exact ⟨g', c', rfl, H1.out, H2.out, H3.out, H4.out⟩
 ·rcases Nat.eq_or_lt_of_le hc with he | hlt
  ·obtain rfl : c = xs.length := he.symm
   have HR := Lib.hid hr
   have HY := Lib.hid (row1 (enc := lgenc) (x := y) hy)
   have HB := Lib.hid hB
   clear hr hy hB hc
   have g1 : (((xs : List Lg).length : Int) == ((xs : List Lg).length : Int)) = true := beq_self_eq_true _
   go_enter Tryz.func122, Tryz.ntmps122
   go_upto_region 7 with fail
   go_wp2_with (refine app_wl lgenc_len lgenc_one (by decide) (by decide) rfl lg_info Tryz.underlying36 [y] rfl (.tmp 23) (.tmp 24) rfl rfl HR.out (some ⟨gy, 0, none⟩) 1 rfl HY.out (by simp) (by first | (simp; done) | (simp; omega)) HB.out ?_)
   intro g' c' w1 h1 h2 h3 h4
   have H1 := Lib.hid h1
   have H2 := Lib.hid h2
   have H3 := Lib.hid h3
   have H4 := Lib.hid h4
   clear h1 h2 h3 h4
   go_wp2_with fail
   go_ret
   exact ⟨g', c', rfl, H1.out, H2.out, H3.out, H4.out⟩
  ·have HR := Lib.hid hr
   have HY := Lib.hid (row1 (enc := lgenc) (x := y) hy)
   have HB := Lib.hid hB
   clear hr hy hB hc
   have hne : decide ((c : Int) = (xs.length : Int)) = false := decide_eq_false (by omega)
   have g1 : (((xs : List Lg).length : Int) == ((xs : List Lg).length : Int)) = true := beq_self_eq_true _
   go_enter Tryz.func122, Tryz.ntmps122
   go_upto_region 7 with fail
   go_wp2_with (refine app_wl lgenc_len lgenc_one (by decide) (by decide) rfl lg_info Tryz.underlying36 [y] rfl (.tmp 23) (.tmp 24) rfl rfl HR.out (some ⟨gy, 0, none⟩) 1 rfl HY.out (by simp) (by first | (simp; done) | (simp; omega)) HB.out ?_)
   intro g' c' w1 h1 h2 h3 h4
   have H1 := Lib.hid h1
   have H2 := Lib.hid h2
   have H3 := Lib.hid h3
   have H4 := Lib.hid h4
   clear h1 h2 h3 h4
   go_wp2_with fail
   go_ret
   exact ⟨g', c', rfl, H1.out, H2.out, H3.out, H4.out⟩
theorem less_self : ∀ l : List UInt8, Op.bytesLess l l = false
 | [] => rfl
 | a :: l => by
  simp only [Op.bytesLess, less_self l, Bool.and_false, Bool.or_false]
  simp
theorem cmpS_self (s : ByteArray) : cmpS s s = 0 := by
 unfold cmpS
 rw [less_self]
 simp
theorem smc1_any (s : ByteArray) (B : Nat) (w : World) : CmpM 83 #[] s (fun m => cmpS m.cu s) B w := by
 intro d W hW
 show Calls Tryz.prog 83 #[.agg #[.string d.cu, .int .i64 d.am], .string s] W _
 go_enter Tryz.func83, Tryz.ntmps83
 go_wp2_with (go_at_call 84; refine (cmpS_any _ _ _).mono ?_; rintro e w' ⟨rfl, rfl⟩)
 go_ret
 exact ⟨by first | rfl | simp, (Below.refl _ _).alloc (Nat.le_refl _) _⟩
def sumA (l : List Lg) : Int := (l.map fun x => x.am).sum
theorem sumA_succ {l : List Lg} {k : Nat} (h : k < l.length) : sumA (l.take (k + 1)) = sumA (l.take k) + l[k]!.am := by
 unfold sumA
 rw [List.take_succ_eq_append_getElem h, getElem!_pos l k h, List.map_append, List.sum_append]
 simp
theorem sumA_bd {l : List Lg} (h : ∀ j, j < l.length → -1000000000000 ≤ l[j]!.am ∧ l[j]!.am ≤ 1000000000000) : ∀ k, k ≤ l.length → -(1000000000000 * (k : Int)) ≤ sumA (l.take k) ∧ sumA (l.take k) ≤ 1000000000000 * (k : Int)
 | 0, _ => by simp [sumA]
 | k + 1, hk => by
  have := sumA_bd h k (by omega)
  have hh := h k (by omega)
  rw [sumA_succ (by omega)]
  omega
theorem gv_own {α : Type} {enc : α → List Value} {k : Nat} {T : TypeId} {W : World} {B g n c : Nat} {xs : List α} (h : GV enc k T W B (.slice (some ⟨g, 0, none⟩) n c) xs) : OwnR enc k T W B g c xs := by
 obtain ⟨g', c', e, ho⟩ := OwnR.of h.1 (fun hv => by cases hv)
 have e1 := Value.slice.inj e
 have e2 : g = g' := congrArg Addr.block (Option.some.inj e1.1)
 rw [e2, e1.2.2]
 exact ho
theorem own_cells {T : TypeId} {W : World} {B g c : Nat} {m : Mn} (h : OwnR mnenc 2 T W B g c [m]) : W.cell? ⟨g, 0, none⟩ = some (.string m.cu) ∧ W.cell? ⟨g, 1, none⟩ = some (.int .i64 m.am) ∧ W.frozen? ⟨g, 1, none⟩ = false := by
 obtain ⟨h1, h2, X, h3, h4⟩ := h
 exact ⟨h4.c0, h4.c1, h4.f1⟩
def SumR (w : World) (l : List Lg) (cu : ByteArray) (g : Nat) (s3 s10 : Value) (W : World) : Prop := ∃ k : Nat, k + g = l.length ∧ s10 = .int .i64 k ∧ ((k = 0 ∧ s3 = .slice none 0 0) ∨ (0 < k ∧ ∃ g3 c3, s3 = .slice (some ⟨g3, 0, none⟩) 1 c3 ∧ OwnR mnenc 2 112 W w.heap.size g3 c3 [⟨cu, sumA (l.take k)⟩])) ∧ Below w.heap.size w W
theorem own_set {W : World} {B g c : Nat} {m : Mn} {T : TypeId} (h : OwnR mnenc 2 T W B g c [m]) (v : Int) : OwnR mnenc 2 T (W.setCell ⟨g, 1, none⟩ (.int .i64 v)) B g c [⟨m.cu, v⟩] := by
 obtain ⟨h1, h2, X, h3, h4⟩ := h
 refine ⟨h1, h2, X, h3, ?_⟩
 have e : (flat mnenc [(⟨m.cu, v⟩ : Mn)] ++ X).toArray = ((flat mnenc [m] ++ X).toArray).setIfInBounds 1 (.int .i64 v) := by simp [flat, mnenc]
 rw [e]
 exact Bk.Blk.set_same h4
set_option maxHeartbeats 8000000 in
theorem sums1_any (a : Option Addr) (cap : Nat) (l : List Lg) (cu : ByteArray) (w : World) (h : RowIn lgenc w a l) (h0 : 0 < l.length) (hn : l.length ≤ 12) (hcu : ∀ j, j < l.length → l[j]!.cu = cu) (ham : ∀ j, j < l.length → -1000000000000 ≤ l[j]!.am ∧ l[j]!.am ≤ 1000000000000) :
  Calls Tryz.prog 51 #[.slice a l.length cap] w fun e w' => ∃ g c, e = .returned (.slice (some ⟨g, 0, none⟩) 1 c) ∧ OwnR mnenc 2 112 w' w.heap.size g c [⟨cu, sumA l⟩] ∧ Below w.heap.size w w' := by
 have HL := Lib.hid h
 have HC := Lib.hid hcu
 have HM := Lib.hid ham
 have H0 := Lib.hid h0
 clear h hcu ham
 go_enter Tryz.func51, Tryz.ntmps51
 go_wp2_with fail
 go_loopg [3, 10] l.length (SumR w l cu)
 case atStart => exact ⟨0, by omega, rfl, .inl ⟨rfl, rfl⟩, Below.refl _ _⟩
 case round =>
  obtain ⟨k, hk, rfl, hout, hbr⟩ := hrel
  have HO := Lib.hid hout
  clear hout
  by_cases hlt : k < l.length
  ·obtain ⟨b, off, rfl, hc⟩ := rowat lgenc_len HL.out (by omega)
   have hm := range_later hbr (hc k hlt)
   have hxc := HC.out k hlt
   have hxm := HM.out k hlt
   have hsb := sumA_bd HM.out k (by omega)
   have hsu := sumA_succ hlt
   clear hc
   obtain ⟨x, hxx⟩ : ∃ x, x = l[k]! := ⟨_, rfl⟩
   rw [← hxx] at hm hxc hxm hsu
   have HX := Lib.hid (And.intro hxc hsu)
   clear hxx hxc hsu
   have cx : Below wr.heap.size wr (wr.alloc (.cells #[.int .i64 (x).ac, .int .i64 (x).am, .string (x).cu] 50)) := Bk.be
   have kx : Bk.Blk (wr.alloc (.cells #[.int .i64 (x).ac, .int .i64 (x).am, .string (x).cu] 50)) wr.heap.size _ 50 := Bk.Blk.nw10
   have c2 := bl2 cx hbr
   have z0r := Below.size hbr
   go_upto_region 5 with ((refine wpList_load_mid rfl 50 _ rfl _ (off + k * 3) (by first | rfl | simp) ([.int .i64 (x).ac, .int .i64 (x).am, .string (x).cu]) _ (hm) Tryz.underlying50 rfl (by kernel_rfl) ?_))
   rcases HO.out with ⟨rfl, rfl⟩ | ⟨hk0, g3, c3, rfl, ho⟩
   ·clear hm HO hbr
    generalize wr.alloc (.cells _ 50) = w2 at *
    generalize wr.heap.size = g2 at *
    have x2 := kx.c2
    go_wp2_with fail
    refine (bsM_any 83 #[] x.cu (fun m => cmpS m.cu x.cu) none 0 [] w2 (by simp) (fun h => absurd h (Nat.not_lt_zero _)) (enters_of Tryz.func83 (by kernel_rfl) rfl) (smc1_any _ _ _) (fun _ b _ hb => absurd hb (Nat.not_lt_zero _))).mono ?_
    rintro e w3 ⟨i, rfl, hi, hb⟩
    obtain rfl : i = 0 := by have := hi.1; simpa using this
    rw [show BsF (fun m : Mn => cmpS m.cu x.cu) [] 0 = false from rfl]
    have cb := bl2 hb c2
    have z3 := Below.size cb
    replace kx := kx.later hb
    clear hi hb c2 cx x2
    have x2 := kx.c2
    go_wp2_with fail
    refine (insM_end none 0 [] ⟨x.cu, 0⟩ w3.heap.size w.heap.size _ (GV.nil _ _) Bk.Blk.nw10 (by simp) (by simp) (by simp; omega)).mono ?_
    rintro e w4 ⟨g3, c3, rfl, hgv, hb4, hgr, hat⟩
    have c4 : Below w.heap.size w w4 := (cb.alloc z3 _).trans hb4
    have hg3 : g3 = w3.heap.size + 1 := by
     rcases hat with h | h
     ·cases h
     ·simpa using h
    have hlt3 := kx.lt
    replace kx : Bk.Blk w4 g2 #[.int .i64 (x).ac, .int .i64 (x).am, .string (x).cu] 50 := (hgr.block g2 (by have := kx.lt; simp; omega) (by simp [Value.ownBlock])).trans (Bk.Blk.alloc kx)
    have ho := gv_own hgv
    have hne : g2 ≠ g3 := by omega
    obtain ⟨s0, hs0⟩ : ∃ s0 : Int, s0 = 0 := ⟨_, rfl⟩
    have HE := Lib.hid (show sumA (l.take 0) = s0 by rw [hs0]; rfl)
    rw [← hs0] at ho
    have hsum : IntKind.i64.wrap (s0 + x.am) = s0 + x.am := by rw [IntKind.wrap_i64]; omega
    clear hgv hgr hat hb4 cb hs0 x2 hg3 hlt3
    go_wp2_with fail
    have o1 := (own_cells ho).2.1
    have of1 := (own_cells ho).2.2
    have q1 : ∀ W', Reg.Cls w4 W' → W'.cell? ⟨g3, 1, none⟩ = some (.int .i64 s0) := fun W' hW => hW.cell o1
    have q2 : ∀ W', Reg.Cls w4 W' → W'.cell? ⟨g2, 1, none⟩ = some (.int .i64 x.am) := fun W' hW => (kx.later hW).c1
    clear o1 of1
    refine Reg.region_tail 10 (by kernel_rfl) (by kernel_rfl) ?_
    simp only [List.take_succ_cons, List.take_zero, List.drop_succ_cons, List.drop_zero]
    iterate 10 (first | go_big_quiet_skip | (go_big_quiet_want; (first | (go_big_quiet_op; go_big_quiet_on) | (apply Reg.quiet_run; (intro W hW; skip; go_simp; (first | done | rfl | exact ⟨rfl, rfl⟩ )); (simp only [Act.put, List.setIfInBounds_toArray, List.set_cons_zero, List.set_cons_succ]; go_big_quiet_on)) | (apply Reg.quiet_call; (intro W hW; go_simp; (first | done | rfl | exact ⟨rfl, rfl⟩)); (intro W hW; (first | fail)); (simp only [Act.put, List.setIfInBounds_toArray, List.set_cons_zero, List.set_cons_succ]; go_big_quiet_on)))))
    refine wpQuiet_nil ?_
    intro w5 hW
    have c5 := bl2 hW c4
    have ho5 := ho.later hW
    clear hW q1 q2 c4
    have o1 := (own_cells ho5).2.1
    have of1 := (own_cells ho5).2.2
    have z5 := Below.size c5
    go_wp2_with fail
    go_roundg (gk - 1)
    case measure => omega
    case rel => exact ⟨0 + 1, by omega, by first | rfl | go_num, .inr ⟨by omega, g3, c3, rfl, by
     have := own_set ho5 (s0 + x.am)
     rw [HX.out.2]
     try rw [HX.out.1] at this
     exact HE.out ▸ this⟩, c5.setCell (by have := ho5.1; exact this) _⟩
   ·have hsx : sumA (l.take k) = sumA (l.take k) := rfl
    have ho2 := ho.later cx
    have hlt3 := ho.lt
    clear hm HO hbr ho hsx
    generalize wr.alloc (.cells _ 50) = w2 at *
    generalize wr.heap.size = g2 at *
    have x2 := kx.c2
    go_wp2_with fail
    refine (bsM_any 83 #[] x.cu (fun m => cmpS m.cu x.cu) (some ⟨g3, 0, none⟩) c3 [⟨cu, sumA (l.take k)⟩] w2 (by simp) ho2.row (enters_of Tryz.func83 (by kernel_rfl) rfl) (smc1_any _ _ _) (fun a b ha hb h => by
     have e1 : b = 0 := by simpa using hb
     have e2 : a = 0 := by omega
     rw [e2, ← e1]; exact h)).mono ?_
    rintro e w3 ⟨i, rfl, hi, hb⟩
    have hcs : cmpS cu x.cu = 0 := by rw [HX.out.1]; exact cmpS_self cu
    obtain rfl : i = 0 := by
     apply Classical.byContradiction
     intro hn0
     have := hi.2.1 0 (by omega)
     have h2 : cmpS cu x.cu < 0 := this
     omega
    rw [show BsF (fun m : Mn => cmpS m.cu x.cu) [⟨cu, sumA (l.take k)⟩] 0 = true by unfold BsF; simp [hcs]]
    have c3' := bl2 hb c2
    replace kx := kx.later hb
    have ho3 := ho2.later hb
    clear hi hb c2 cx x2 hcs ho2
    have hne : g2 ≠ g3 := by omega
    obtain ⟨s0, hs0⟩ : ∃ s0 : Int, s0 = sumA (l.take k) := ⟨_, rfl⟩
    have HE := Lib.hid (show sumA (l.take k) = s0 from hs0.symm)
    rw [← hs0] at ho3 hsb
    have hsum : IntKind.i64.wrap (s0 + x.am) = s0 + x.am := by rw [IntKind.wrap_i64]; omega
    clear hs0 hlt3
    go_wp2_with fail
    generalize w3 = w4 at *
    have o1 := (own_cells ho3).2.1
    have of1 := (own_cells ho3).2.2
    have q1 : ∀ W', Reg.Cls w4 W' → W'.cell? ⟨g3, 1, none⟩ = some (.int .i64 s0) := fun W' hW => hW.cell o1
    have q2 : ∀ W', Reg.Cls w4 W' → W'.cell? ⟨g2, 1, none⟩ = some (.int .i64 x.am) := fun W' hW => (kx.later hW).c1
    clear o1 of1
    refine Reg.region_tail 10 (by kernel_rfl) (by kernel_rfl) ?_
    simp only [List.take_succ_cons, List.take_zero, List.drop_succ_cons, List.drop_zero]
    iterate 10 (first | go_big_quiet_skip | (go_big_quiet_want; (first | (go_big_quiet_op; go_big_quiet_on) | (apply Reg.quiet_run; (intro W hW; skip; go_simp; (first | done | rfl | exact ⟨rfl, rfl⟩ )); (simp only [Act.put, List.setIfInBounds_toArray, List.set_cons_zero, List.set_cons_succ]; go_big_quiet_on)) | (apply Reg.quiet_call; (intro W hW; go_simp; (first | done | rfl | exact ⟨rfl, rfl⟩)); (intro W hW; (first | fail)); (simp only [Act.put, List.setIfInBounds_toArray, List.set_cons_zero, List.set_cons_succ]; go_big_quiet_on)))))
    refine wpQuiet_nil ?_
    intro w5 hW
    have c5 := bl2 hW c3'
    have ho5 := ho3.later hW
    clear hW q1 q2 c3'
    have o1 := (own_cells ho5).2.1
    have of1 := (own_cells ho5).2.2
    have z5 := Below.size c5
    go_wp2_with fail
    go_roundg (gk - 1)
    case measure => omega
    case rel => exact ⟨k + 1, by omega, by go_num, .inr ⟨by omega, g3, c3, rfl, by
     have := own_set ho5 (s0 + x.am)
     rw [HX.out.2]
     try rw [HX.out.1] at this
     exact HE.out ▸ this⟩, c5.setCell (by have := ho5.1; exact this) _⟩
  ·obtain rfl : k = l.length := by omega
   rcases HO.out with ⟨h, _⟩ | ⟨_, g3, c3, rfl, ho⟩
   ·exact absurd H0.out (by omega)
   ·rw [List.take_length] at ho
    have HQ := Lib.hid ho
    clear ho HO
    go_wp2_with fail
    go_ret
    exact ⟨g3, c3, rfl, HQ.out, hbr⟩
end Go.Proofs.YtjhpiclnpmdjnaaGreatDoor.Bm
namespace Go.Proofs.YtjhpiclnpmdjnaaGreatDoor.Bm
open Go Go.RowKit
open Go.Proofs.YtjhpiclnpmdjnaaGreatDoor
set_option linter.unusedSimpArgs false
set_option linter.unusedVariables false
theorem less_trans : ∀ {a b c : List UInt8}, Op.bytesLess a b = true → Op.bytesLess b c = true → Op.bytesLess a c = true
  | _, [], _, h, _ => by simp [Op.bytesLess] at h
  | [], _ :: _, [], _, h => by simp [Op.bytesLess] at h
  | [], _ :: _, _ :: _, _, _ => rfl
  | _ :: _, _ :: _, [], _, h => by simp [Op.bytesLess] at h
  | x :: a, y :: b, z :: c, h1, h2 => by
    simp only [Op.bytesLess, Bool.or_eq_true, Bool.and_eq_true, decide_eq_true_eq, beq_iff_eq] at h1 h2 ⊢
    rcases h1 with h1 | ⟨rfl, h1⟩
    · rcases h2 with h2 | ⟨rfl, h2⟩
      · exact .inl (UInt8.lt_trans h1 h2)
      · exact .inl h1
    · rcases h2 with h2 | ⟨rfl, h2⟩
      · exact .inl h2
      · exact .inr ⟨rfl, less_trans h1 h2⟩
theorem less_conn : ∀ {a b : List UInt8}, Op.bytesLess a b = false → Op.bytesLess b a = false → a = b
  | [], [], _, _ => rfl
  | [], _ :: _, h, _ => by simp [Op.bytesLess] at h
  | _ :: _, [], _, h => by simp [Op.bytesLess] at h
  | x :: a, y :: b, h1, h2 => by
    simp only [Op.bytesLess, Bool.or_eq_false_iff, decide_eq_false_iff_not, Bool.and_eq_false_iff, beq_eq_false_iff_ne] at h1 h2
    have hxy : x = y := by
      have e1 := h1.1
      have e2 := h2.1
      exact UInt8.le_antisymm (UInt8.not_lt.1 e2) (UInt8.not_lt.1 e1)
    subst hxy
    have e1 : Op.bytesLess a b = false := by rcases h1.2 with h | h; · exact absurd rfl h
                                             · exact h
    have e2 : Op.bytesLess b a = false := by rcases h2.2 with h | h; · exact absurd rfl h
                                             · exact h
    rw [less_conn e1 e2]
theorem cmpS_lt {a b : ByteArray} : cmpS a b < 0 ↔ Op.bytesLess a.toList b.toList = true := by
  unfold cmpS
  split
  · rename_i h
    exact ⟨fun _ => h, fun _ => by decide⟩
  · rename_i h
    split
    · exact ⟨fun h => absurd h (by decide), fun h' => absurd h' h⟩
    · exact ⟨fun h => absurd h (by decide), fun h' => absurd h' h⟩
theorem cmpS_eq {a b : ByteArray} : cmpS a b = 0 ↔ a.toList = b.toList := by
  unfold cmpS
  split
  · rename_i h
    refine ⟨fun h => absurd h (by decide), fun e => ?_⟩
    rw [e, less_self] at h
    cases h
  · split
    · rename_i h
      exact ⟨fun _ => by simpa using h, fun _ => rfl⟩
    · rename_i h
      exact ⟨fun h => absurd h (by decide), fun e => absurd (by simpa using e) h⟩
theorem cmpS_gt {a b : ByteArray} (h : 0 < cmpS a b) : cmpS b a < 0 := by
  rw [cmpS_lt]
  apply Classical.byContradiction
  intro hn
  have h1 : Op.bytesLess a.toList b.toList = false := by
    cases e : Op.bytesLess a.toList b.toList
    · rfl
    · have := cmpS_lt.2 e; omega
  have := less_conn h1 (by simpa using hn)
  have := cmpS_eq.2 this
  omega
theorem cmpS_trans {a b c : ByteArray} (h : cmpS a b < 0) (k : cmpS b c < 0) : cmpS a c < 0 := cmpS_lt.2 (less_trans (cmpS_lt.1 h) (cmpS_lt.1 k))
theorem cmpS_congr {a b c : ByteArray} (h : a.toList = b.toList) : cmpS a c = cmpS b c ∧ cmpS c a = cmpS c b := by
  unfold cmpS
  rw [h]
  exact ⟨rfl, rfl⟩
def Srt (l : List Mn) : Prop := ∀ i j, i < j → j < l.length → cmpS l[i]!.cu l[j]!.cu < 0
theorem Srt.mono {l : List Mn} (h : Srt l) (s : ByteArray) : ∀ a b, a ≤ b → b < l.length → cmpS l[b]!.cu s < 0 → cmpS l[a]!.cu s < 0 := fun a b hab hb hlt => by
  rcases Nat.eq_or_lt_of_le hab with e | hl
  · rw [e]; exact hlt
  · exact cmpS_trans (h a b hl hb) hlt
def sumC (l : List Lg) (s : ByteArray) : Int := sumA (l.filter fun x => x.cu.toList == s.toList)
theorem sumC_succ {l : List Lg} {k : Nat} (h : k < l.length) (s : ByteArray) : sumC (l.take (k + 1)) s = if l[k]!.cu.toList == s.toList then sumC (l.take k) s + l[k]!.am else sumC (l.take k) s := by
  unfold sumC
  rw [List.take_succ_eq_append_getElem h, List.filter_append, getElem!_pos l k h]
  cases e : l[k].cu.toList == s.toList
  · rw [List.filter_cons_of_neg (by simp [e])]
    simp
  · rw [List.filter_cons_of_pos (by simpa using e)]
    simp [sumA]
structure SumsOf (out : List Mn) (l : List Lg) : Prop where
  srt : Srt out
  val : ∀ m ∈ out, m.am = sumC l m.cu ∧ ∃ x ∈ l, x.cu.toList = m.cu.toList
  all : ∀ x ∈ l, ∃ m ∈ out, m.cu.toList = x.cu.toList
theorem SumsOf.nil : SumsOf [] [] := ⟨fun i j _ h => absurd h (Nat.not_lt_zero _), fun m h => (by cases h), fun x h => (by cases h)⟩
theorem tk_last {l : List Lg} {k : Nat} (hk : k < l.length) : l[k]! ∈ l.take (k + 1) := by
  rw [getElem!_pos l k hk, List.take_succ_eq_append_getElem hk]
  exact List.mem_append_right _ (List.mem_cons_self ..)
theorem tk_old {l : List Lg} {k : Nat} {x : Lg} (hk : k < l.length) (hx : x ∈ l.take k) : x ∈ l.take (k + 1) := by
  rw [List.take_succ_eq_append_getElem hk]
  exact List.mem_append_left _ hx
theorem sumA_filter_bd : ∀ (l : List Lg) (p : Lg → Bool), (∀ x ∈ l, -1000000000000 ≤ x.am ∧ x.am ≤ 1000000000000) → -(1000000000000 * (l.length : Int)) ≤ sumA (l.filter p) ∧ sumA (l.filter p) ≤ 1000000000000 * (l.length : Int)
  | [], _, _ => by simp [sumA]
  | x :: t, p, h => by
    have ih := sumA_filter_bd t p (fun y hy => h y (List.mem_cons_of_mem _ hy))
    have hx := h x (List.mem_cons_self ..)
    cases e : p x
    · rw [List.filter_cons_of_neg (by simp [e])]
      simp only [List.length_cons]
      omega
    · rw [List.filter_cons_of_pos e]
      have : sumA (x :: t.filter p) = x.am + sumA (t.filter p) := by simp [sumA]
      rw [this]
      simp only [List.length_cons]
      omega
theorem sumC_bd {l : List Lg} (h : ∀ j, j < l.length → -1000000000000 ≤ l[j]!.am ∧ l[j]!.am ≤ 1000000000000) {k : Nat} (hk : k ≤ l.length) (s : ByteArray) : -(1000000000000 * (k : Int)) ≤ sumC (l.take k) s ∧ sumC (l.take k) s ≤ 1000000000000 * (k : Int) := by
  have hl : (l.take k).length = k := by rw [List.length_take]; omega
  have := sumA_filter_bd (l.take k) (fun x => x.cu.toList == s.toList) (fun x hx => by
    obtain ⟨j, hj, rfl⟩ := List.mem_iff_getElem.1 hx
    have hj' : j < l.length := by rw [hl] at hj; omega
    have := h j hj'
    rw [getElem!_pos l j hj'] at this
    rw [List.getElem_take]
    exact this)
  rw [hl] at this
  exact this
theorem SumsOf.add {out : List Mn} {l : List Lg} {k i : Nat} (h : SumsOf out (l.take k)) (hk : k < l.length) (hi : i < out.length) (he : out[i]!.cu.toList = l[k]!.cu.toList) :
    SumsOf (out.set i ⟨out[i]!.cu, out[i]!.am + l[k]!.am⟩) (l.take (k + 1)) := by
  have hlen : (out.set i ⟨out[i]!.cu, out[i]!.am + l[k]!.am⟩).length = out.length := List.length_set ..
  have hcu : ∀ j, j < out.length → (out.set i ⟨out[i]!.cu, out[i]!.am + l[k]!.am⟩)[j]!.cu = out[j]!.cu := fun j hj => by
    rw [getElem!_pos _ j (by rw [hlen]; exact hj), List.getElem_set]
    split
    · rename_i e; rw [← e]
    · rw [getElem!_pos out j hj]
  refine ⟨fun a b hab hb => ?_, fun m hm => ?_, fun x hx => ?_⟩
  · rw [hlen] at hb
    rw [hcu a (by omega), hcu b hb]
    exact h.srt a b hab hb
  · obtain ⟨j, hj, rfl⟩ := List.mem_iff_getElem.1 hm
    rw [hlen] at hj
    rw [List.getElem_set]
    split
    · rename_i e
      have hv := h.val out[i]! (by rw [getElem!_pos out i hi]; exact List.getElem_mem hi)
      refine ⟨?_, l[k]!, tk_last hk, he.symm⟩
      show out[i]!.am + l[k]!.am = sumC (l.take (k + 1)) out[i]!.cu
      rw [sumC_succ hk, if_pos (by rw [he]; simp), hv.1]
    · rename_i e
      have hv := h.val out[j] (List.getElem_mem hj)
      obtain ⟨h1, x, hx, hxe⟩ := hv
      refine ⟨?_, x, tk_old hk hx, hxe⟩
      rw [sumC_succ hk, if_neg, h1]
      intro hh
      have e2 : l[k]!.cu.toList = out[j].cu.toList := by simpa using hh
      rw [← he] at e2
      have hne : i ≠ j := e
      rcases Nat.lt_or_gt_of_ne hne with hl | hl
      · have := h.srt i j hl hj
        rw [getElem!_pos out j hj, cmpS_eq.2 e2] at this
        omega
      · have := h.srt j i hl hi
        rw [getElem!_pos out j hj, cmpS_eq.2 e2.symm] at this
        omega
  · rw [List.take_succ_eq_append_getElem hk, List.mem_append] at hx
    rcases hx with hx | hx
    · obtain ⟨m, hm, hme⟩ := h.all x hx
      obtain ⟨j, hj, rfl⟩ := List.mem_iff_getElem.1 hm
      refine ⟨(out.set i ⟨out[i]!.cu, out[i]!.am + l[k]!.am⟩)[j]!, by rw [getElem!_pos _ j (by rw [hlen]; exact hj)]; exact List.getElem_mem _, ?_⟩
      rw [hcu j hj, getElem!_pos out j hj]
      exact hme
    · have hx' : x = l[k] := by simpa using hx
      have hi' : i < (out.set i ⟨out[i]!.cu, out[i]!.am + l[k]!.am⟩).length := by rw [hlen]; exact hi
      refine ⟨(out.set i ⟨out[i]!.cu, out[i]!.am + l[k]!.am⟩)[i]!, by rw [getElem!_pos (out.set i ⟨out[i]!.cu, out[i]!.am + l[k]!.am⟩) i hi']; exact List.getElem_mem _, ?_⟩
      rw [hcu i hi, he, hx', getElem!_pos l k hk]
theorem ins_len {α : Type} (out : List α) (i : Nat) (y : α) (hi : i ≤ out.length) : (out.take i ++ y :: out.drop i).length = out.length + 1 := by
  rw [List.length_append, List.length_take, List.length_cons, List.length_drop]
  omega
theorem ins_at {α : Type} [Inhabited α] (out : List α) (i : Nat) (y : α) (hi : i ≤ out.length) (j : Nat) (hj : j < out.length + 1) : (out.take i ++ y :: out.drop i)[j]! = if j < i then out[j]! else if j = i then y else out[j - 1]! := by
  have hl := ins_len out i y hi
  have ht : (out.take i).length = i := by rw [List.length_take]; omega
  rw [getElem!_pos _ j (by rw [hl]; exact hj)]
  split
  · rename_i h
    rw [List.getElem_append_left (by rw [ht]; exact h), List.getElem_take, getElem!_pos out j (by omega)]
  · rename_i h
    rw [List.getElem_append_right (by rw [ht]; omega)]
    split
    · rename_i e
      subst e
      simp [ht]
    · rename_i e
      obtain ⟨d, hd⟩ : ∃ d, j = i + 1 + d := ⟨j - i - 1, by omega⟩
      subst hd
      have : i + 1 + d - (out.take i).length = d + 1 := by rw [ht]; omega
      simp only [this, List.getElem_cons_succ, List.getElem_drop]
      rw [getElem!_pos out (i + 1 + d - 1) (by omega)]
      congr 1
      omega
theorem sumC_none : ∀ {l : List Lg} {s : ByteArray}, (∀ x ∈ l, x.cu.toList ≠ s.toList) → sumC l s = 0
  | [], _, _ => rfl
  | x :: t, s, h => by
    have ih := sumC_none (l := t) (s := s) (fun y hy => h y (List.mem_cons_of_mem _ hy))
    unfold sumC at ih ⊢
    rw [List.filter_cons_of_neg (by simpa using h x (List.mem_cons_self ..))]
    exact ih
theorem SumsOf.ins {out : List Mn} {l : List Lg} {k i : Nat} (h : SumsOf out (l.take k)) (hk : k < l.length) (hi : i ≤ out.length) (hlt : ∀ t, t < i → cmpS out[t]!.cu l[k]!.cu < 0) (hgt : ∀ t, i ≤ t → t < out.length → 0 < cmpS out[t]!.cu l[k]!.cu) :
    SumsOf (out.take i ++ ⟨l[k]!.cu, l[k]!.am⟩ :: out.drop i) (l.take (k + 1)) := by
  have hlen := ins_len out i (⟨l[k]!.cu, l[k]!.am⟩ : Mn) hi
  have hat := ins_at out i (⟨l[k]!.cu, l[k]!.am⟩ : Mn) hi
  have hno : ∀ t, t < out.length → out[t]!.cu.toList ≠ l[k]!.cu.toList := fun t ht e => by
    have e0 := cmpS_eq.2 e
    by_cases h' : t < i
    · have := hlt t h'; omega
    · have := hgt t (by omega) ht; omega
  have hnk : ∀ x ∈ l.take k, x.cu.toList ≠ l[k]!.cu.toList := fun x hx e => by
    obtain ⟨m, hm, hme⟩ := h.all x hx
    obtain ⟨j, hj, rfl⟩ := List.mem_iff_getElem.1 hm
    exact hno j hj (by rw [getElem!_pos out j hj, hme, e])
  have hmem : ∀ x, x ∈ l.take k → x ∈ l.take (k + 1) := fun x hx => tk_old hk hx
  have hlast : l[k]! ∈ l.take (k + 1) := tk_last hk
  refine ⟨fun a b hab hb => ?_, fun m hm => ?_, fun x hx => ?_⟩
  · rw [hlen] at hb
    rw [hat a (by omega), hat b hb]
    by_cases ha1 : a < i
    · rw [if_pos ha1]
      by_cases hb1 : b < i
      · rw [if_pos hb1]; exact h.srt a b hab (by omega)
      · rw [if_neg hb1]
        by_cases hb2 : b = i
        · rw [if_pos hb2]; exact hlt a ha1
        · rw [if_neg hb2]; exact h.srt a (b - 1) (by omega) (by omega)
    · rw [if_neg ha1, if_neg (by omega : ¬ b < i), if_neg (by omega : ¬ b = i)]
      by_cases ha2 : a = i
      · rw [if_pos ha2]; exact cmpS_gt (hgt (b - 1) (by omega) (by omega))
      · rw [if_neg ha2]; exact h.srt (a - 1) (b - 1) (by omega) (by omega)
  · have hcase : m = ⟨l[k]!.cu, l[k]!.am⟩ ∨ m ∈ out := by
      rw [List.mem_append, List.mem_cons] at hm
      rcases hm with hm | hm | hm
      · exact .inr (List.mem_of_mem_take hm)
      · exact .inl hm
      · exact .inr (List.mem_of_mem_drop hm)
    rcases hcase with rfl | hm
    · refine ⟨?_, l[k]!, hlast, rfl⟩
      show l[k]!.am = sumC (l.take (k + 1)) l[k]!.cu
      rw [sumC_succ hk, if_pos (by simp), sumC_none hnk]
      omega
    · obtain ⟨h1, x, hx, hxe⟩ := h.val m hm
      refine ⟨?_, x, hmem x hx, hxe⟩
      rw [sumC_succ hk, if_neg, h1]
      intro hh
      obtain ⟨j, hj, rfl⟩ := List.mem_iff_getElem.1 hm
      exact hno j hj (by rw [getElem!_pos out j hj]; exact (by simpa using hh : l[k]!.cu.toList = out[j].cu.toList).symm)
  · rw [List.take_succ_eq_append_getElem hk, List.mem_append] at hx
    rcases hx with hx | hx
    · obtain ⟨m, hm, hme⟩ := h.all x hx
      refine ⟨m, ?_, hme⟩
      rw [← List.take_append_drop i out, List.mem_append] at hm
      rw [List.mem_append, List.mem_cons]
      rcases hm with hm | hm
      · exact .inl hm
      · exact .inr (.inr hm)
    · have hx' : x = l[k] := by simpa using hx
      refine ⟨⟨l[k]!.cu, l[k]!.am⟩, by rw [List.mem_append]; exact .inr (List.mem_cons_self ..), ?_⟩
      rw [hx', getElem!_pos l k hk]
def balB (l : List Lg) : Bool := l.all fun x => sumC l x.cu == 0
theorem SumsOf.bal {out : List Mn} {l : List Lg} (h : SumsOf out l) : balB l = out.all fun m => m.am == 0 := by
  unfold balB
  rw [Bool.eq_iff_iff, List.all_eq_true, List.all_eq_true]
  have hc : ∀ {a b : ByteArray}, a.toList = b.toList → sumC l a = sumC l b := fun e => by unfold sumC; rw [e]
  constructor
  · intro hb m hm
    obtain ⟨h1, x, hx, hxe⟩ := h.val m hm
    rw [h1, ← hc hxe]
    exact hb x hx
  · intro hb x hx
    obtain ⟨m, hm, hme⟩ := h.all x hx
    have := hb m hm
    rw [(h.val m hm).1, hc hme] at this
    exact this
open Go.Proofs.YtjhpiclnpmdjnaaGreatDoor.Ln (flat flat_len flat_get flat_mem RowIn OwnR Idx bl2)
open Go.Proofs.YtjhpiclnpmdjnaaGreatDoor.Kl (upto upto_yes upto_no upto_iff byt byt_get upB codeB)
set_option maxRecDepth 100000

def chB (lo : Int) (c : Nat) : Bool := decide (lo ≤ (c : Int) ∧ c ≤ 126)
def txtB (lo mo : Int) (s : ByteArray) : Bool := decide ((s.size : Int) ≤ mo) && upto s.size fun j => chB lo (byt s j)
def StR (w : World) (s : ByteArray) (p : Nat → Bool) (g : Nat) (s8 : Value) (W : World) : Prop := ∃ i : Nat, i + g = s.size ∧ s8 = .int .i64 i ∧ (∀ j, j < i → p j = true) ∧ w = W
theorem st_step {p : Nat → Bool} {i : Nat} (h : ∀ j, j < i → p j = true) (hi : p i = true) : ∀ j, j < i + 1 → p j = true := fun j hj => by
 by_cases e : j = i
 ·subst e; exact hi
 ·exact h j (by omega)
theorem txtB_no {lo mo : Int} {s : ByteArray} {i : Nat} (hi : i < s.size) (h : chB lo (byt s i) = false) : txtB lo mo s = false := by
 unfold txtB
 rw [upto_no hi h, Bool.and_false]
theorem txtB_all {lo mo : Int} {s : ByteArray} (h : ∀ j, j < s.size → chB lo (byt s j) = true) : txtB lo mo s = decide ((s.size : Int) ≤ mo) := by
 unfold txtB
 rw [upto_yes h, Bool.and_true]
theorem codeB_no {s : ByteArray} {i : Nat} (hi : i < s.size) (h : upB (byt s i) = false) : codeB s = false := by
 unfold codeB
 rw [upto_no hi h, Bool.and_false]
theorem codeB_all {s : ByteArray} (h : ∀ j, j < s.size → upB (byt s j) = true) : codeB s = decide (s.size = 3) := by
 unfold codeB
 rw [upto_yes h, Bool.and_true]
set_option maxHeartbeats 4000000 in
theorem etext_any (s : ByteArray) (lo mo : Int) (w : World) (hs : s.size ≤ maxLen) : Calls Tryz.prog 48 #[.string s, .int .u8 lo, .int .i64 mo] w fun e w' => e = .returned (.bool (txtB lo mo s)) ∧ w = w' := by
 have hm : s.size ≤ 9223372036854775807 := by unfold maxLen at hs; omega
 clear hs
 go_enter Tryz.func48, Tryz.ntmps48
 go_wp2_with fail
 go_loopg [10] s.size (StR w s (fun j => chB lo (byt s j)))
 case atStart => exact ⟨0, by omega, rfl, fun j hj => by omega, rfl⟩
 case round =>
  obtain ⟨i, hi, rfl, hall, rfl⟩ := hrel
  have HA := Lib.hid hall
  clear hall
  by_cases hlt : i < s.size
  ·have hb := byt_get hlt
   have hc := (s[i]'hlt).toNat_lt
   by_cases a1 : (byt s i : Int) < lo
   ·have HF := Lib.hid (txtB_no (lo := lo) (mo := mo) hlt (show chB lo (byt s i) = false by unfold chB; simp; omega))
    have d1 : decide ((byt s i : Int) < lo) = true := decide_eq_true a1
    go_wp2_with fail
    go_ret
    exact ⟨by rw [HF.out]; try rfl, rfl⟩
   ·have d1 : decide ((byt s i : Int) < lo) = false := decide_eq_false a1
    by_cases a2 : 126 < byt s i
    ·have HF := Lib.hid (txtB_no (lo := lo) (mo := mo) hlt (show chB lo (byt s i) = false by unfold chB; simp; omega))
     go_wp2_with fail
     go_ret
     exact ⟨by rw [HF.out]; try rfl, rfl⟩
    ·have HP := Lib.hid (show (fun j => chB lo (byt s j)) i = true by show chB lo (byt s i) = true; unfold chB; simp; omega)
     go_wp2_with fail
     go_roundg (gk - 1)
     case measure => omega
     case rel => exact ⟨i + 1, by omega, by go_num, st_step HA.out HP.out, rfl⟩
  ·have HU := Lib.hid (txtB_all (lo := lo) (mo := mo) (s := s) (fun j hj => HA.out j (by omega)))
   go_wp2_with fail
   go_ret
   exact ⟨by rw [HU.out]; try rfl, rfl⟩
set_option maxHeartbeats 4000000 in
theorem ecode_any (s : ByteArray) (w : World) (hs : s.size ≤ maxLen) : Calls Tryz.prog 50 #[.string s] w fun e w' => e = .returned (.bool (codeB s)) ∧ w = w' := by
 have hm : s.size ≤ 9223372036854775807 := by unfold maxLen at hs; omega
 clear hs
 go_enter Tryz.func50, Tryz.ntmps50
 go_wp2_with fail
 go_loopg [6] s.size (StR w s (fun j => upB (byt s j)))
 case atStart => exact ⟨0, by omega, rfl, fun j hj => by omega, rfl⟩
 case round =>
  obtain ⟨i, hi, rfl, hall, rfl⟩ := hrel
  have HA := Lib.hid hall
  clear hall
  by_cases hlt : i < s.size
  ·have hb := byt_get hlt
   have hc := (s[i]'hlt).toNat_lt
   by_cases a1 : byt s i < 65
   ·have HF := Lib.hid (codeB_no hlt (show upB (byt s i) = false by unfold upB; simp; omega))
    go_wp2_with fail
    go_ret
    exact ⟨by rw [HF.out]; try rfl, rfl⟩
   ·by_cases a2 : 90 < byt s i
    ·have HF := Lib.hid (codeB_no hlt (show upB (byt s i) = false by unfold upB; simp; omega))
     go_wp2_with fail
     go_ret
     exact ⟨by rw [HF.out]; try rfl, rfl⟩
    ·have HP := Lib.hid (show (fun j => upB (byt s j)) i = true by show upB (byt s i) = true; unfold upB; simp; omega)
     go_wp2_with fail
     go_roundg (gk - 1)
     case measure => omega
     case rel => exact ⟨i + 1, by omega, by go_num, st_step HA.out HP.out, rfl⟩
  ·have HU := Lib.hid (codeB_all (s := s) (fun j hj => HA.out j (by omega)))
   have hin : i = s.size := by omega
   clear hin
   go_wp2_with fail
   go_ret
   exact ⟨by rw [HU.out]; exact congrArg (fun b => Ending.returned (Value.bool b)) (Bool.eq_iff_iff.2 (by simp; omega)), rfl⟩
theorem eday_any (n : Int) (w : World) : Calls Tryz.prog 49 #[.int .i64 n] w fun e w' => e = .returned (.bool (decide (0 ≤ n ∧ n ≤ 73048))) ∧ w = w' := by
 by_cases h : 0 ≤ n
 ·by_cases h2 : n ≤ 73048
  ·rw [decide_eq_true ⟨h, h2⟩]
   go_enter Tryz.func49, Tryz.ntmps49
   go_wp2_with fail
   go_ret
   exact ⟨by simp, rfl⟩
  ·rw [decide_eq_false (by omega)]
   go_enter Tryz.func49, Tryz.ntmps49
   go_wp2_with fail
   go_ret
   exact ⟨by simp, rfl⟩
 ·rw [decide_eq_false (by omega)]
  go_enter Tryz.func49, Tryz.ntmps49
  go_wp2_with fail
  go_ret
  exact ⟨by simp, rfl⟩
def keyB (s : ByteArray) : Bool := !s.toList.isEmpty && txtB 33 48 s
theorem ekey_any (s : ByteArray) (w : World) (hs : s.size ≤ maxLen) : Calls Tryz.prog 47 #[.string s] w fun e w' => e = .returned (.bool (keyB s)) ∧ w = w' := by
 have HS := Lib.hid hs
 clear hs
 cases h0 : s.toList.isEmpty
 ·have HK := Lib.hid (show keyB s = txtB 33 48 s by unfold keyB; rw [h0]; rfl)
  go_enter Tryz.func47, Tryz.ntmps47
  go_wp2_with (go_at_call 48; refine (etext_any _ _ _ _ HS.out).mono ?_; rintro e w' ⟨rfl, rfl⟩)
  go_ret
  exact ⟨by rw [HK.out]; try rfl, rfl⟩
 ·have HK := Lib.hid (show keyB s = false by unfold keyB; rw [h0]; rfl)
  go_enter Tryz.func47, Tryz.ntmps47
  go_wp2_with fail
  go_ret
  exact ⟨by rw [HK.out]; try rfl, rfl⟩
structure EnG (e : En) (c : ByteArray) : Prop where
 ke : keyB e.ke = true
 tx : txtB 32 64 e.tx = true
 bo : 0 ≤ e.bo ∧ e.bo ≤ 73048
 va : 0 ≤ e.va ∧ e.va ≤ 73048
 pe : 0 ≤ e.pe ∧ e.pe ≤ 73048
 ki : 1 ≤ e.ki ∧ e.ki ≤ 14
 au : 0 ≤ e.au ∧ e.au ≤ 3
 ln : 2 ≤ e.lg.length ∧ e.lg.length ≤ 12
 lg : ∀ j, j < e.lg.length → 1 ≤ e.lg[j]!.ac ∧ e.lg[j]!.am ≠ 0 ∧ -1000000000000 ≤ e.lg[j]!.am ∧ e.lg[j]!.am ≤ 1000000000000 ∧ e.lg[j]!.cu = c
 cu : codeB c = true
 su : sumA e.lg = 0
theorem size_txt {lo mo : Int} {s : ByteArray} (h : txtB lo mo s = true) : (s.size : Int) ≤ mo := by
 unfold txtB at h
 rw [Bool.and_eq_true] at h
 exact of_decide_eq_true h.1
theorem size_key {s : ByteArray} (h : keyB s = true) : s.size ≤ 48 := by
 unfold keyB at h
 rw [Bool.and_eq_true] at h
 have := size_txt h.2
 omega
theorem size_code {s : ByteArray} (h : codeB s = true) : s.size = 3 := by
 unfold codeB at h
 rw [Bool.and_eq_true] at h
 exact of_decide_eq_true h.1
def ChR (w : World) (e : En) (g : Nat) (s : Value) (W : World) : Prop := ∃ k : Nat, k + g = e.lg.length ∧ s = .int .i64 k ∧ Bk.Blk W w.heap.size #[.int .i64 (e).id, .int .i64 (e).bo, .int .i64 (e).va, .int .i64 (e).ki, .int .i64 (e).au, .int .i64 (e).pe, .string (e).ke, .string (e).tx, .slice (e).la (e).lg.length (e).lk, .int .u64 (e).ch] 39 ∧ Below w.heap.size w W
def Ch2R (w : World) (g3 c3 : Nat) (m : Mn) (g : Nat) (s : Value) (W : World) : Prop := ∃ k : Nat, k + g = 1 ∧ s = .int .i64 k ∧ OwnR mnenc 2 112 W w.heap.size g3 c3 [m] ∧ Below w.heap.size w W
set_option maxHeartbeats 16000000 in
theorem echeck_ok (e0 : En) (c : ByteArray) (w : World) (h : EnG e0 c) (hl : RowIn lgenc w e0.la e0.lg) : Calls Tryz.prog 23 #[(.agg #[.int .i64 (e0).id, .int .i64 (e0).bo, .int .i64 (e0).va, .int .i64 (e0).ki, .int .i64 (e0).au, .int .i64 (e0).pe, .string (e0).ke, .string (e0).tx, .slice (e0).la (e0).lg.length (e0).lk, .int .u64 (e0).ch])] w fun e w' => e = .returned (.int .i64 0) ∧ Below w.heap.size w w' := by
 have cw : Below w.heap.size w (w.alloc (.cells #[.int .i64 (e0).id, .int .i64 (e0).bo, .int .i64 (e0).va, .int .i64 (e0).ki, .int .i64 (e0).au, .int .i64 (e0).pe, .string (e0).ke, .string (e0).tx, .slice (e0).la (e0).lg.length (e0).lk, .int .u64 (e0).ch] 39)) := Bk.be
 have ke : Bk.Blk (w.alloc (.cells #[.int .i64 (e0).id, .int .i64 (e0).bo, .int .i64 (e0).va, .int .i64 (e0).ki, .int .i64 (e0).au, .int .i64 (e0).pe, .string (e0).ke, .string (e0).tx, .slice (e0).la (e0).lg.length (e0).lk, .int .u64 (e0).ch] 39)) w.heap.size _ 39 := Bk.Blk.nw10
 have HL := Lib.hid (fun (W : World) (hW : Below w.heap.size w W) => hl.later hW)
 have HG := Lib.hid h
 have HK := Lib.hid (fun (W : World) => (h.ke ▸ ekey_any e0.ke W (by have := size_key h.ke; unfold maxLen; omega) : Calls Tryz.prog 47 #[.string e0.ke] W fun e w' => e = .returned (.bool true) ∧ W = w'))
 have HT := Lib.hid (fun (W : World) => (h.tx ▸ etext_any e0.tx 32 64 W (by have := size_txt h.tx; unfold maxLen; omega) : Calls Tryz.prog 48 #[.string e0.tx, .int .u8 32, .int .i64 64] W fun e w' => e = .returned (.bool true) ∧ W = w'))
 have HD := Lib.hid (fun (n : Int) (W : World) (hn : 0 ≤ n ∧ n ≤ 73048) => (decide_eq_true hn ▸ eday_any n W : Calls Tryz.prog 49 #[.int .i64 n] W fun e w' => e = .returned (.bool true) ∧ W = w'))
 have HC := Lib.hid (fun (W : World) => (h.cu ▸ ecode_any c W (by have := size_code h.cu; unfold maxLen; omega) : Calls Tryz.prog 50 #[.string c] W fun e w' => e = .returned (.bool true) ∧ W = w'))
 have k1 := h.ki
 have k2 := h.au
 have k3 := h.ln
 clear h hl
 go_enter Tryz.func23, Tryz.ntmps23
 go_upto_region 1 with fail
 generalize (w.alloc (.cells _ 39)) = w1 at *
 have l1 := ke.c1
 have l2 := ke.c2
 have l3 := ke.c3
 have l4 := ke.c4
 have l5 := ke.c5
 have l6 := ke.c6
 have l7 := ke.c7
 have l8 := ke.c8
 have d1 : decide (e0.ki < 1) = false := decide_eq_false (by omega)
 have d2 : decide (14 < e0.ki) = false := decide_eq_false (by omega)
 have d3 : decide (e0.au < 0) = false := decide_eq_false (by omega)
 have d4 : decide (3 < e0.au) = false := decide_eq_false (by omega)
 have d5 : decide ((e0.lg.length : Int) < 2) = false := decide_eq_false (by omega)
 have d6 : decide ((12 : Int) < (e0.lg.length : Int)) = false := decide_eq_false (by omega)
 have kb1 := HG.out.bo
 have KB := Lib.hid (And.intro HG.out.bo (And.intro HG.out.va HG.out.pe))
 clear kb1
 go_upto_region 10 with (first | (go_at_call 47; refine (HK.out _).mono ?_; rintro e w' ⟨rfl, rfl⟩) | (go_at_call 48; refine (HT.out _).mono ?_; rintro e w' ⟨rfl, rfl⟩) | (go_at_call 49; refine (HD.out _ _ (by first | exact KB.out.1 | exact KB.out.2.1 | exact KB.out.2.2)).mono ?_; rintro e w' ⟨rfl, rfl⟩))
 clear l1 l2 l3 l4 l5 l6 l7 l8 d1 d2 d3 d4 d5 d6 k1 k2
 go_loopg [68] e0.lg.length (ChR w e0)
 case atStart => exact ⟨0, by omega, rfl, ke, cw⟩
 case round =>
  clear ke cw
  obtain ⟨k, hk, rfl, ke, hbr⟩ := hrel
  have hz1 := Below.size hbr
  by_cases hlt : k < e0.lg.length
  ·obtain ⟨b, off, ha, hc⟩ := rowat lgenc_len (HL.out _ hbr) (by omega)
   have hm := hc k hlt
   clear hc
   obtain ⟨x1, x2, x3, x4, x5⟩ := HG.out.lg k hlt
   obtain ⟨x, hxx⟩ : ∃ x, x = e0.lg[k]! := ⟨_, rfl⟩
   rw [← hxx] at hm x1 x2 x3 x4 x5
   have HX := Lib.hid (And.intro hxx x5)
   have b1 : decide (x.ac < 1) = false := decide_eq_false (by omega)
   have b2 : (x.am == 0) = false := beq_eq_false_iff_ne.2 x2
   have b3 : decide (x.am < -1000000000000) = false := decide_eq_false (by omega)
   have b4 : decide (1000000000000 < x.am) = false := decide_eq_false (by omega)
   have HCU := Lib.hid x5
   clear hxx x1 x2 x3 x4 x5
   rw [ha]
   have HA := Lib.hid ha
   clear ha
   go_upto_region 14 with ((refine wpList_load_mid rfl 50 _ rfl _ (off + k * 3) (by first | rfl | simp) ([.int .i64 (x).ac, .int .i64 (x).am, .string (x).cu]) _ (hm) Tryz.underlying50 rfl (by kernel_rfl) ?_))
   clear hm b1 b2 b3 b4
   have cx : Below wr.heap.size wr (wr.alloc (.cells #[.int .i64 (x).ac, .int .i64 (x).am, .string (x).cu] 50)) := Bk.be
   have kx : Bk.Blk (wr.alloc (.cells #[.int .i64 (x).ac, .int .i64 (x).am, .string (x).cu] 50)) wr.heap.size _ 50 := Bk.Blk.nw10
   have c2 := bl2 cx hbr
   replace ke := ke.later cx
   generalize wr.alloc (.cells _ 50) = w2 at *
   generalize wr.heap.size = g2 at *
   have x2 := kx.c2
   rw [HCU.out] at x2
   rw [← HA.out]
   clear cx hbr
   go_wp2_with fail
   refine (HC.out _).mono ?_
   rintro e w' ⟨rfl, rfl⟩
   go_wp2_with fail
   go_roundg (gk - 1)
   case measure => omega
   case rel => exact ⟨k + 1, by omega, by go_num, ke, c2⟩
  ·have hkn : k = e0.lg.length := by omega
   have l8 := ke.c8
   clear hkn
   go_wp2_with fail
   refine (sums1_any e0.la e0.lk e0.lg c _ (HL.out _ hbr) (by omega) (by omega) (fun j hj => (HG.out.lg j hj).2.2.2.2) (fun j hj => ⟨(HG.out.lg j hj).2.2.1, (HG.out.lg j hj).2.2.2.1⟩)).mono ?_
   rintro e w3 ⟨g3, c3, rfl, ho, hb⟩
   have c4 := bl2 hb hbr
   rw [HG.out.su] at ho
   replace ho : OwnR mnenc 2 112 w3 w.heap.size g3 c3 [⟨c, 0⟩] := ⟨by have := ho.1; omega, ho.2⟩
   clear hb hbr ke l8
   go_wp2_with fail
   go_loopg [99] 1 (Ch2R w g3 c3 ⟨c, 0⟩)
   case atStart => exact ⟨0, by omega, rfl, ho, c4⟩
   case round =>
    clear ho c4
    obtain ⟨k2, hk2, rfl, ho, hbr2⟩ := hrel
    have hz2 := Below.size hbr2
    by_cases hlt2 : k2 < 1
    ·obtain rfl : k2 = 0 := by omega
     have o0 := (own_cells ho).1
     have o1 := (own_cells ho).2.1
     go_wp2_with fail
     go_roundg (gk - 1)
     case measure => omega
     case rel => exact ⟨1, by omega, by go_num, ho.later ((Below.refl _ _).alloc (Nat.le_refl _) _), hbr2.alloc hz2 _⟩
    ·go_wp2_with fail
     go_ret
     exact ⟨rfl, hbr2⟩
end Go.Proofs.YtjhpiclnpmdjnaaGreatDoor.Bm
