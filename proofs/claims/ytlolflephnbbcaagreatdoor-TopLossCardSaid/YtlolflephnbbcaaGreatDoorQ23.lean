/-
  Parts of the proof: B8, B10, B9.
-/
import Derived.Test.YtlolflephnbbcaaGreatDoorQ22
import Derived.Test.YtlolflephnbbcaaGreatDoorQ21
namespace Go.Proofs.YtlolflephnbbcaaGreatDoor.Bm
open Go Go.RowKit
open Go.Proofs.YtlolflephnbbcaaGreatDoor
open Go.Proofs.YtlolflephnbbcaaGreatDoor.Ln (flat flat_len flat_get flat_mem RowIn OwnR Idx bl2 results2_cell Blk_setRow_same Blk_setRow_ne Below_setRow take_at one_at call_wp value_wp SB tk ts z0 z1 z2 z3 z4 z5)
open Go.Proofs.YtlolflephnbbcaaGreatDoor.Sr (GV)
set_option linter.unusedSimpArgs false
set_option linter.unusedVariables false
set_option maxRecDepth 100000

theorem row1 {α : Type} {enc : α → List Value} {W : World} {g : Nat} {x : α} {t : TypeId} (h : Bk.Blk W g (enc x).toArray t) : RowIn enc W (some ⟨g, 0, none⟩) [x] := fun _ => ⟨g, 0, rfl, fun j u hj => by
 rw [Nat.zero_add, h.cell]
 have e : flat enc [x] = enc x := by simp [flat]
 rw [e] at hj
 simpa using hj⟩
theorem mn_info : (Tryz.prog.info? 160).map (fun i => (i.zero, i.size, i.bytes)) = some (some (.agg #[.string .empty, .int .i64 0]), 2, 24) := by kernel_rfl
set_option maxHeartbeats 8000000 in
theorem insM_end (a : Option Addr) (c : Nat) (xs : List Mn) (y : Mn) (gy B : Nat) (w : World) (hr : GV mnenc 2 160 w B (.slice a xs.length c) xs) (hy : Bk.Blk w gy #[.string y.cu, .int .i64 y.am] 160) (hn : xs.length ≤ 100000) (hc : xs.length ≤ c) (hB : B ≤ w.heap.size) :
  Calls Tryz.prog 133 #[.slice a xs.length c, .int .i64 xs.length, .slice (some ⟨gy, 0, none⟩) 1 1] w fun e w' => ∃ g' c', e = .returned (.slice (some ⟨g', 0, none⟩) (xs.length + 1) c') ∧ GV mnenc 2 160 w' B (.slice (some ⟨g', 0, none⟩) (xs.length + 1) c') (xs ++ [y]) ∧ Below B w w' ∧ w.grownBy w' (Value.slice a xs.length c).ownBlock ∧ ((Value.slice a xs.length c).ownBlock = some g' ∨ g' = w.heap.size) := by
 have hcase : (a = none ∧ xs = [] ∧ c = 0) ∨ (∃ ad, a = some ad) := by
  cases a with
  | some ad => exact .inr ⟨ad, rfl⟩
  | none =>
   rcases hr.1.2 with ⟨e, hx⟩ | ⟨g, cap, cur, e, _⟩
   ·have := Value.slice.inj e
    exact .inl ⟨rfl, List.eq_nil_of_length_eq_zero this.2.1, this.2.2⟩
   ·cases e
 rcases hcase with ⟨rfl, rfl, rfl⟩ | ⟨ad, rfl⟩
 ·have HR := Lib.hid hr
  have HY := Lib.hid (row1 (enc := mnenc) (x := y) hy)
  have HB := Lib.hid hB
  clear hr hy hB hc
  have g1 : ((([] : List Mn).length : Int) == (([] : List Mn).length : Int)) = true := beq_self_eq_true _
  go_enter Tryz.func133, Tryz.ntmps133
  go_upto_region 7 with fail
  go_wp2_with (refine app_wl mnenc_len mnenc_one (by decide) (by decide) rfl mn_info Tryz.underlying157 [y] rfl (.tmp 23) (.tmp 24) rfl rfl HR.out (some ⟨gy, 0, none⟩) 1 rfl HY.out (by simp) (by first | (simp; done) | (simp; omega)) HB.out ?_)
  intro g' c' w1 h1 h2 h3 h4
  have H1 := Lib.hid h1
  have H2 := Lib.hid h2
  have H3 := Lib.hid h3
  have H4 := Lib.hid h4
  clear h1 h2 h3 h4
  go_wp2_with fail
  go_ret
  exact ⟨g', c', rfl, H1.out, H2.out, H3.out, H4.out⟩
 ·rcases Nat.eq_or_lt_of_le hc with he | hlt
  ·obtain rfl : c = xs.length := he.symm
   have HR := Lib.hid hr
   have HY := Lib.hid (row1 (enc := mnenc) (x := y) hy)
   have HB := Lib.hid hB
   clear hr hy hB hc
   have g1 : (((xs : List Mn).length : Int) == ((xs : List Mn).length : Int)) = true := beq_self_eq_true _
   go_enter Tryz.func133, Tryz.ntmps133
   go_upto_region 7 with fail
   go_wp2_with (refine app_wl mnenc_len mnenc_one (by decide) (by decide) rfl mn_info Tryz.underlying157 [y] rfl (.tmp 23) (.tmp 24) rfl rfl HR.out (some ⟨gy, 0, none⟩) 1 rfl HY.out (by simp) (by first | (simp; done) | (simp; omega)) HB.out ?_)
   intro g' c' w1 h1 h2 h3 h4
   have H1 := Lib.hid h1
   have H2 := Lib.hid h2
   have H3 := Lib.hid h3
   have H4 := Lib.hid h4
   clear h1 h2 h3 h4
   go_wp2_with fail
   go_ret
   exact ⟨g', c', rfl, H1.out, H2.out, H3.out, H4.out⟩
  ·have HR := Lib.hid hr
   have HY := Lib.hid (row1 (enc := mnenc) (x := y) hy)
   have HB := Lib.hid hB
   clear hr hy hB hc
   have hne : decide ((c : Int) = (xs.length : Int)) = false := decide_eq_false (by omega)
   have g1 : (((xs : List Mn).length : Int) == ((xs : List Mn).length : Int)) = true := beq_self_eq_true _
   go_enter Tryz.func133, Tryz.ntmps133
   go_upto_region 7 with fail
   go_wp2_with (refine app_wl mnenc_len mnenc_one (by decide) (by decide) rfl mn_info Tryz.underlying157 [y] rfl (.tmp 23) (.tmp 24) rfl rfl HR.out (some ⟨gy, 0, none⟩) 1 rfl HY.out (by simp) (by first | (simp; done) | (simp; omega)) HB.out ?_)
   intro g' c' w1 h1 h2 h3 h4
   have H1 := Lib.hid h1
   have H2 := Lib.hid h2
   have H3 := Lib.hid h3
   have H4 := Lib.hid h4
   clear h1 h2 h3 h4
   go_wp2_with fail
   go_ret
   exact ⟨g', c', rfl, H1.out, H2.out, H3.out, H4.out⟩
theorem lg_info : (Tryz.prog.info? 76).map (fun i => (i.zero, i.size, i.bytes)) = some (some (.agg #[.int .i64 0, .int .i64 0, .string .empty]), 3, 32) := by kernel_rfl
set_option maxHeartbeats 8000000 in
theorem insL_end (a : Option Addr) (c : Nat) (xs : List Lg) (y : Lg) (gy B : Nat) (w : World) (hr : GV lgenc 3 76 w B (.slice a xs.length c) xs) (hy : Bk.Blk w gy #[.int .i64 (y).ac, .int .i64 (y).am, .string (y).cu] 76) (hn : xs.length ≤ 100000) (hc : xs.length ≤ c) (hB : B ≤ w.heap.size) :
  Calls Tryz.prog 173 #[.slice a xs.length c, .int .i64 xs.length, .slice (some ⟨gy, 0, none⟩) 1 1] w fun e w' => ∃ g' c', e = .returned (.slice (some ⟨g', 0, none⟩) (xs.length + 1) c') ∧ GV lgenc 3 76 w' B (.slice (some ⟨g', 0, none⟩) (xs.length + 1) c') (xs ++ [y]) ∧ Below B w w' ∧ w.grownBy w' (Value.slice a xs.length c).ownBlock ∧ ((Value.slice a xs.length c).ownBlock = some g' ∨ g' = w.heap.size) := by
 have hcase : (a = none ∧ xs = [] ∧ c = 0) ∨ (∃ ad, a = some ad) := by
  cases a with
  | some ad => exact .inr ⟨ad, rfl⟩
  | none =>
   rcases hr.1.2 with ⟨e, hx⟩ | ⟨g, cap, cur, e, _⟩
   ·have := Value.slice.inj e
    exact .inl ⟨rfl, List.eq_nil_of_length_eq_zero this.2.1, this.2.2⟩
   ·cases e
 rcases hcase with ⟨rfl, rfl, rfl⟩ | ⟨ad, rfl⟩
 ·have HR := Lib.hid hr
  have HY := Lib.hid (row1 (enc := lgenc) (x := y) hy)
  have HB := Lib.hid hB
  clear hr hy hB hc
  have g1 : ((([] : List Lg).length : Int) == (([] : List Lg).length : Int)) = true := beq_self_eq_true _
  go_enter Tryz.func173, Tryz.ntmps173
  go_upto_region 7 with fail
  go_wp2_with (refine app_wl lgenc_len lgenc_one (by decide) (by decide) rfl lg_info Tryz.underlying77 [y] rfl (.tmp 23) (.tmp 24) rfl rfl HR.out (some ⟨gy, 0, none⟩) 1 rfl HY.out (by simp) (by first | (simp; done) | (simp; omega)) HB.out ?_)
  intro g' c' w1 h1 h2 h3 h4
  have H1 := Lib.hid h1
  have H2 := Lib.hid h2
  have H3 := Lib.hid h3
  have H4 := Lib.hid h4
  clear h1 h2 h3 h4
  go_wp2_with fail
  go_ret
  exact ⟨g', c', rfl, H1.out, H2.out, H3.out, H4.out⟩
 ·rcases Nat.eq_or_lt_of_le hc with he | hlt
  ·obtain rfl : c = xs.length := he.symm
   have HR := Lib.hid hr
   have HY := Lib.hid (row1 (enc := lgenc) (x := y) hy)
   have HB := Lib.hid hB
   clear hr hy hB hc
   have g1 : (((xs : List Lg).length : Int) == ((xs : List Lg).length : Int)) = true := beq_self_eq_true _
   go_enter Tryz.func173, Tryz.ntmps173
   go_upto_region 7 with fail
   go_wp2_with (refine app_wl lgenc_len lgenc_one (by decide) (by decide) rfl lg_info Tryz.underlying77 [y] rfl (.tmp 23) (.tmp 24) rfl rfl HR.out (some ⟨gy, 0, none⟩) 1 rfl HY.out (by simp) (by first | (simp; done) | (simp; omega)) HB.out ?_)
   intro g' c' w1 h1 h2 h3 h4
   have H1 := Lib.hid h1
   have H2 := Lib.hid h2
   have H3 := Lib.hid h3
   have H4 := Lib.hid h4
   clear h1 h2 h3 h4
   go_wp2_with fail
   go_ret
   exact ⟨g', c', rfl, H1.out, H2.out, H3.out, H4.out⟩
  ·have HR := Lib.hid hr
   have HY := Lib.hid (row1 (enc := lgenc) (x := y) hy)
   have HB := Lib.hid hB
   clear hr hy hB hc
   have hne : decide ((c : Int) = (xs.length : Int)) = false := decide_eq_false (by omega)
   have g1 : (((xs : List Lg).length : Int) == ((xs : List Lg).length : Int)) = true := beq_self_eq_true _
   go_enter Tryz.func173, Tryz.ntmps173
   go_upto_region 7 with fail
   go_wp2_with (refine app_wl lgenc_len lgenc_one (by decide) (by decide) rfl lg_info Tryz.underlying77 [y] rfl (.tmp 23) (.tmp 24) rfl rfl HR.out (some ⟨gy, 0, none⟩) 1 rfl HY.out (by simp) (by first | (simp; done) | (simp; omega)) HB.out ?_)
   intro g' c' w1 h1 h2 h3 h4
   have H1 := Lib.hid h1
   have H2 := Lib.hid h2
   have H3 := Lib.hid h3
   have H4 := Lib.hid h4
   clear h1 h2 h3 h4
   go_wp2_with fail
   go_ret
   exact ⟨g', c', rfl, H1.out, H2.out, H3.out, H4.out⟩
theorem less_self : ∀ l : List UInt8, Op.bytesLess l l = false
 | [] => rfl
 | a :: l => by
  simp only [Op.bytesLess, less_self l, Bool.and_false, Bool.or_false]
  simp
theorem cmpS_self (s : ByteArray) : cmpS s s = 0 := by
 unfold cmpS
 rw [less_self]
 simp
theorem smc1_any (s : ByteArray) (B : Nat) (w : World) : CmpM 131 #[] s (fun m => cmpS m.cu s) B w := by
 intro d W hW
 show Calls Tryz.prog 131 #[.agg #[.string d.cu, .int .i64 d.am], .string s] W _
 go_enter Tryz.func131, Tryz.ntmps131
 go_wp2_with (go_at_call 132; refine (cmpS_any _ _ _).mono ?_; rintro e w' ⟨rfl, rfl⟩)
 go_ret
 exact ⟨by first | rfl | simp, (Below.refl _ _).alloc (Nat.le_refl _) _⟩
def sumA (l : List Lg) : Int := (l.map fun x => x.am).sum
theorem sumA_succ {l : List Lg} {k : Nat} (h : k < l.length) : sumA (l.take (k + 1)) = sumA (l.take k) + l[k]!.am := by
 unfold sumA
 rw [List.take_succ_eq_append_getElem h, getElem!_pos l k h, List.map_append, List.sum_append]
 simp
theorem sumA_bd {l : List Lg} (h : ∀ j, j < l.length → -1000000000000 ≤ l[j]!.am ∧ l[j]!.am ≤ 1000000000000) : ∀ k, k ≤ l.length → -(1000000000000 * (k : Int)) ≤ sumA (l.take k) ∧ sumA (l.take k) ≤ 1000000000000 * (k : Int)
 | 0, _ => by simp [sumA]
 | k + 1, hk => by
  have := sumA_bd h k (by omega)
  have hh := h k (by omega)
  rw [sumA_succ (by omega)]
  omega
theorem gv_own {α : Type} {enc : α → List Value} {k : Nat} {T : TypeId} {W : World} {B g n c : Nat} {xs : List α} (h : GV enc k T W B (.slice (some ⟨g, 0, none⟩) n c) xs) : OwnR enc k T W B g c xs := by
 obtain ⟨g', c', e, ho⟩ := OwnR.of h.1 (fun hv => by cases hv)
 have e1 := Value.slice.inj e
 have e2 : g = g' := congrArg Addr.block (Option.some.inj e1.1)
 rw [e2, e1.2.2]
 exact ho
theorem own_cells {T : TypeId} {W : World} {B g c : Nat} {m : Mn} (h : OwnR mnenc 2 T W B g c [m]) : W.cell? ⟨g, 0, none⟩ = some (.string m.cu) ∧ W.cell? ⟨g, 1, none⟩ = some (.int .i64 m.am) ∧ W.frozen? ⟨g, 1, none⟩ = false := by
 obtain ⟨h1, h2, X, h3, h4⟩ := h
 exact ⟨h4.c0, h4.c1, h4.f1⟩
def SumR (w : World) (l : List Lg) (cu : ByteArray) (g : Nat) (s3 s10 : Value) (W : World) : Prop := ∃ k : Nat, k + g = l.length ∧ s10 = .int .i64 k ∧ ((k = 0 ∧ s3 = .slice none 0 0) ∨ (0 < k ∧ ∃ g3 c3, s3 = .slice (some ⟨g3, 0, none⟩) 1 c3 ∧ OwnR mnenc 2 160 W w.heap.size g3 c3 [⟨cu, sumA (l.take k)⟩])) ∧ Below w.heap.size w W
theorem own_set {W : World} {B g c : Nat} {m : Mn} {T : TypeId} (h : OwnR mnenc 2 T W B g c [m]) (v : Int) : OwnR mnenc 2 T (W.setCell ⟨g, 1, none⟩ (.int .i64 v)) B g c [⟨m.cu, v⟩] := by
 obtain ⟨h1, h2, X, h3, h4⟩ := h
 refine ⟨h1, h2, X, h3, ?_⟩
 have e : (flat mnenc [(⟨m.cu, v⟩ : Mn)] ++ X).toArray = ((flat mnenc [m] ++ X).toArray).setIfInBounds 1 (.int .i64 v) := by simp [flat, mnenc]
 rw [e]
 exact Bk.Blk.set_same h4
set_option maxHeartbeats 8000000 in
theorem sums1_any (a : Option Addr) (cap : Nat) (l : List Lg) (cu : ByteArray) (w : World) (h : RowIn lgenc w a l) (h0 : 0 < l.length) (hn : l.length ≤ 12) (hcu : ∀ j, j < l.length → l[j]!.cu = cu) (ham : ∀ j, j < l.length → -1000000000000 ≤ l[j]!.am ∧ l[j]!.am ≤ 1000000000000) :
  Calls Tryz.prog 89 #[.slice a l.length cap] w fun e w' => ∃ g c, e = .returned (.slice (some ⟨g, 0, none⟩) 1 c) ∧ OwnR mnenc 2 160 w' w.heap.size g c [⟨cu, sumA l⟩] ∧ Below w.heap.size w w' := by
 have HL := Lib.hid h
 have HC := Lib.hid hcu
 have HM := Lib.hid ham
 have H0 := Lib.hid h0
 clear h hcu ham
 go_enter Tryz.func89, Tryz.ntmps89
 go_wp2_with fail
 go_loopg [3, 10] l.length (SumR w l cu)
 case atStart => exact ⟨0, by omega, rfl, .inl ⟨rfl, rfl⟩, Below.refl _ _⟩
 case round =>
  obtain ⟨k, hk, rfl, hout, hbr⟩ := hrel
  have HO := Lib.hid hout
  clear hout
  by_cases hlt : k < l.length
  ·obtain ⟨b, off, rfl, hc⟩ := rowat lgenc_len HL.out (by omega)
   have hm := range_later hbr (hc k hlt)
   have hxc := HC.out k hlt
   have hxm := HM.out k hlt
   have hsb := sumA_bd HM.out k (by omega)
   have hsu := sumA_succ hlt
   clear hc
   obtain ⟨x, hxx⟩ : ∃ x, x = l[k]! := ⟨_, rfl⟩
   rw [← hxx] at hm hxc hxm hsu
   have HX := Lib.hid (And.intro hxc hsu)
   clear hxx hxc hsu
   have cx : Below wr.heap.size wr (wr.alloc (.cells #[.int .i64 (x).ac, .int .i64 (x).am, .string (x).cu] 76)) := Bk.be
   have kx : Bk.Blk (wr.alloc (.cells #[.int .i64 (x).ac, .int .i64 (x).am, .string (x).cu] 76)) wr.heap.size _ 76 := Bk.Blk.nw10
   have c2 := bl2 cx hbr
   have z0r := Below.size hbr
   go_upto_region 5 with ((refine wpList_load_mid rfl 76 _ rfl _ (off + k * 3) (by first | rfl | simp) ([.int .i64 (x).ac, .int .i64 (x).am, .string (x).cu]) _ (hm) Tryz.underlying76 rfl (by kernel_rfl) ?_))
   rcases HO.out with ⟨rfl, rfl⟩ | ⟨hk0, g3, c3, rfl, ho⟩
   ·clear hm HO hbr
    generalize wr.alloc (.cells _ 76) = w2 at *
    generalize wr.heap.size = g2 at *
    have x2 := kx.c2
    go_wp2_with fail
    refine (bsM_any 131 #[] x.cu (fun m => cmpS m.cu x.cu) none 0 [] w2 (by simp) (fun h => absurd h (Nat.not_lt_zero _)) (enters_of Tryz.func131 (by kernel_rfl) rfl) (smc1_any _ _ _) (fun _ b _ hb => absurd hb (Nat.not_lt_zero _))).mono ?_
    rintro e w3 ⟨i, rfl, hi, hb⟩
    obtain rfl : i = 0 := by have := hi.1; simpa using this
    rw [show BsF (fun m : Mn => cmpS m.cu x.cu) [] 0 = false from rfl]
    have cb := bl2 hb c2
    have z3 := Below.size cb
    replace kx := kx.later hb
    clear hi hb c2 cx x2
    have x2 := kx.c2
    go_wp2_with fail
    refine (insM_end none 0 [] ⟨x.cu, 0⟩ w3.heap.size w.heap.size _ (GV.nil _ _) Bk.Blk.nw10 (by simp) (by simp) (by simp; omega)).mono ?_
    rintro e w4 ⟨g3, c3, rfl, hgv, hb4, hgr, hat⟩
    have c4 : Below w.heap.size w w4 := (cb.alloc z3 _).trans hb4
    have hg3 : g3 = w3.heap.size + 1 := by
     rcases hat with h | h
     ·cases h
     ·simpa using h
    have hlt3 := kx.lt
    replace kx : Bk.Blk w4 g2 #[.int .i64 (x).ac, .int .i64 (x).am, .string (x).cu] 76 := (hgr.block g2 (by have := kx.lt; simp; omega) (by simp [Value.ownBlock])).trans (Bk.Blk.alloc kx)
    have ho := gv_own hgv
    have hne : g2 ≠ g3 := by omega
    obtain ⟨s0, hs0⟩ : ∃ s0 : Int, s0 = 0 := ⟨_, rfl⟩
    have HE := Lib.hid (show sumA (l.take 0) = s0 by rw [hs0]; rfl)
    rw [← hs0] at ho
    have hsum : IntKind.i64.wrap (s0 + x.am) = s0 + x.am := by rw [IntKind.wrap_i64]; omega
    clear hgv hgr hat hb4 cb hs0 x2 hg3 hlt3
    go_wp2_with fail
    have o1 := (own_cells ho).2.1
    have of1 := (own_cells ho).2.2
    have q1 : ∀ W', Reg.Cls w4 W' → W'.cell? ⟨g3, 1, none⟩ = some (.int .i64 s0) := fun W' hW => hW.cell o1
    have q2 : ∀ W', Reg.Cls w4 W' → W'.cell? ⟨g2, 1, none⟩ = some (.int .i64 x.am) := fun W' hW => (kx.later hW).c1
    clear o1 of1
    refine Reg.region_tail 10 (by kernel_rfl) (by kernel_rfl) ?_
    simp only [List.take_succ_cons, List.take_zero, List.drop_succ_cons, List.drop_zero]
    iterate 10 (first | go_big_quiet_skip | (go_big_quiet_want; (first | (go_big_quiet_op; go_big_quiet_on) | (apply Reg.quiet_run; (intro W hW; skip; go_simp; (first | done | rfl | exact ⟨rfl, rfl⟩ )); (simp only [Act.put, List.setIfInBounds_toArray, List.set_cons_zero, List.set_cons_succ]; go_big_quiet_on)) | (apply Reg.quiet_call; (intro W hW; go_simp; (first | done | rfl | exact ⟨rfl, rfl⟩)); (intro W hW; (first | fail)); (simp only [Act.put, List.setIfInBounds_toArray, List.set_cons_zero, List.set_cons_succ]; go_big_quiet_on)))))
    refine wpQuiet_nil ?_
    intro w5 hW
    have c5 := bl2 hW c4
    have ho5 := ho.later hW
    clear hW q1 q2 c4
    have o1 := (own_cells ho5).2.1
    have of1 := (own_cells ho5).2.2
    have z5 := Below.size c5
    go_wp2_with fail
    go_roundg (gk - 1)
    case measure => omega
    case rel => exact ⟨0 + 1, by omega, by first | rfl | go_num, .inr ⟨by omega, g3, c3, rfl, by
     have := own_set ho5 (s0 + x.am)
     rw [HX.out.2]
     try rw [HX.out.1] at this
     exact HE.out ▸ this⟩, c5.setCell (by have := ho5.1; exact this) _⟩
   ·have hsx : sumA (l.take k) = sumA (l.take k) := rfl
    have ho2 := ho.later cx
    have hlt3 := ho.lt
    clear hm HO hbr ho hsx
    generalize wr.alloc (.cells _ 76) = w2 at *
    generalize wr.heap.size = g2 at *
    have x2 := kx.c2
    go_wp2_with fail
    refine (bsM_any 131 #[] x.cu (fun m => cmpS m.cu x.cu) (some ⟨g3, 0, none⟩) c3 [⟨cu, sumA (l.take k)⟩] w2 (by simp) ho2.row (enters_of Tryz.func131 (by kernel_rfl) rfl) (smc1_any _ _ _) (fun a b ha hb h => by
     have e1 : b = 0 := by simpa using hb
     have e2 : a = 0 := by omega
     rw [e2, ← e1]; exact h)).mono ?_
    rintro e w3 ⟨i, rfl, hi, hb⟩
    have hcs : cmpS cu x.cu = 0 := by rw [HX.out.1]; exact cmpS_self cu
    obtain rfl : i = 0 := by
     apply Classical.byContradiction
     intro hn0
     have := hi.2.1 0 (by omega)
     have h2 : cmpS cu x.cu < 0 := this
     omega
    rw [show BsF (fun m : Mn => cmpS m.cu x.cu) [⟨cu, sumA (l.take k)⟩] 0 = true by unfold BsF; simp [hcs]]
    have c3' := bl2 hb c2
    replace kx := kx.later hb
    have ho3 := ho2.later hb
    clear hi hb c2 cx x2 hcs ho2
    have hne : g2 ≠ g3 := by omega
    obtain ⟨s0, hs0⟩ : ∃ s0 : Int, s0 = sumA (l.take k) := ⟨_, rfl⟩
    have HE := Lib.hid (show sumA (l.take k) = s0 from hs0.symm)
    rw [← hs0] at ho3 hsb
    have hsum : IntKind.i64.wrap (s0 + x.am) = s0 + x.am := by rw [IntKind.wrap_i64]; omega
    clear hs0 hlt3
    go_wp2_with fail
    generalize w3 = w4 at *
    have o1 := (own_cells ho3).2.1
    have of1 := (own_cells ho3).2.2
    have q1 : ∀ W', Reg.Cls w4 W' → W'.cell? ⟨g3, 1, none⟩ = some (.int .i64 s0) := fun W' hW => hW.cell o1
    have q2 : ∀ W', Reg.Cls w4 W' → W'.cell? ⟨g2, 1, none⟩ = some (.int .i64 x.am) := fun W' hW => (kx.later hW).c1
    clear o1 of1
    refine Reg.region_tail 10 (by kernel_rfl) (by kernel_rfl) ?_
    simp only [List.take_succ_cons, List.take_zero, List.drop_succ_cons, List.drop_zero]
    iterate 10 (first | go_big_quiet_skip | (go_big_quiet_want; (first | (go_big_quiet_op; go_big_quiet_on) | (apply Reg.quiet_run; (intro W hW; skip; go_simp; (first | done | rfl | exact ⟨rfl, rfl⟩ )); (simp only [Act.put, List.setIfInBounds_toArray, List.set_cons_zero, List.set_cons_succ]; go_big_quiet_on)) | (apply Reg.quiet_call; (intro W hW; go_simp; (first | done | rfl | exact ⟨rfl, rfl⟩)); (intro W hW; (first | fail)); (simp only [Act.put, List.setIfInBounds_toArray, List.set_cons_zero, List.set_cons_succ]; go_big_quiet_on)))))
    refine wpQuiet_nil ?_
    intro w5 hW
    have c5 := bl2 hW c3'
    have ho5 := ho3.later hW
    clear hW q1 q2 c3'
    have o1 := (own_cells ho5).2.1
    have of1 := (own_cells ho5).2.2
    have z5 := Below.size c5
    go_wp2_with fail
    go_roundg (gk - 1)
    case measure => omega
    case rel => exact ⟨k + 1, by omega, by go_num, .inr ⟨by omega, g3, c3, rfl, by
     have := own_set ho5 (s0 + x.am)
     rw [HX.out.2]
     try rw [HX.out.1] at this
     exact HE.out ▸ this⟩, c5.setCell (by have := ho5.1; exact this) _⟩
  ·obtain rfl : k = l.length := by omega
   rcases HO.out with ⟨h, _⟩ | ⟨_, g3, c3, rfl, ho⟩
   ·exact absurd H0.out (by omega)
   ·rw [List.take_length] at ho
    have HQ := Lib.hid ho
    clear ho HO
    go_wp2_with fail
    go_ret
    exact ⟨g3, c3, rfl, HQ.out, hbr⟩
end Go.Proofs.YtlolflephnbbcaaGreatDoor.Bm
namespace Go.Proofs.YtlolflephnbbcaaGreatDoor.Bm
open Go Go.RowKit
open Go.Proofs.YtlolflephnbbcaaGreatDoor
open Go.Proofs.YtlolflephnbbcaaGreatDoor.Ln (flat flat_len flat_get flat_mem RowIn OwnR Idx bl2)
open Go.Proofs.YtlolflephnbbcaaGreatDoor.Kl (upto upto_yes upto_no upto_iff byt byt_get upB codeB)
set_option linter.unusedSimpArgs false
set_option linter.unusedVariables false
set_option maxRecDepth 100000

def chB (lo : Int) (c : Nat) : Bool := decide (lo ≤ (c : Int) ∧ c ≤ 126)
def txtB (lo mo : Int) (s : ByteArray) : Bool := decide ((s.size : Int) ≤ mo) && upto s.size fun j => chB lo (byt s j)
def StR (w : World) (s : ByteArray) (p : Nat → Bool) (g : Nat) (s8 : Value) (W : World) : Prop := ∃ i : Nat, i + g = s.size ∧ s8 = .int .i64 i ∧ (∀ j, j < i → p j = true) ∧ w = W
theorem st_step {p : Nat → Bool} {i : Nat} (h : ∀ j, j < i → p j = true) (hi : p i = true) : ∀ j, j < i + 1 → p j = true := fun j hj => by
 by_cases e : j = i
 ·subst e; exact hi
 ·exact h j (by omega)
theorem txtB_no {lo mo : Int} {s : ByteArray} {i : Nat} (hi : i < s.size) (h : chB lo (byt s i) = false) : txtB lo mo s = false := by
 unfold txtB
 rw [upto_no hi h, Bool.and_false]
theorem txtB_all {lo mo : Int} {s : ByteArray} (h : ∀ j, j < s.size → chB lo (byt s j) = true) : txtB lo mo s = decide ((s.size : Int) ≤ mo) := by
 unfold txtB
 rw [upto_yes h, Bool.and_true]
theorem codeB_no {s : ByteArray} {i : Nat} (hi : i < s.size) (h : upB (byt s i) = false) : codeB s = false := by
 unfold codeB
 rw [upto_no hi h, Bool.and_false]
theorem codeB_all {s : ByteArray} (h : ∀ j, j < s.size → upB (byt s j) = true) : codeB s = decide (s.size = 3) := by
 unfold codeB
 rw [upto_yes h, Bool.and_true]
set_option maxHeartbeats 4000000 in
theorem etext_any (s : ByteArray) (lo mo : Int) (w : World) (hs : s.size ≤ maxLen) : Calls Tryz.prog 86 #[.string s, .int .u8 lo, .int .i64 mo] w fun e w' => e = .returned (.bool (txtB lo mo s)) ∧ w = w' := by
 have hm : s.size ≤ 9223372036854775807 := by unfold maxLen at hs; omega
 clear hs
 go_enter Tryz.func86, Tryz.ntmps86
 go_wp2_with fail
 go_loopg [10] s.size (StR w s (fun j => chB lo (byt s j)))
 case atStart => exact ⟨0, by omega, rfl, fun j hj => by omega, rfl⟩
 case round =>
  obtain ⟨i, hi, rfl, hall, rfl⟩ := hrel
  have HA := Lib.hid hall
  clear hall
  by_cases hlt : i < s.size
  ·have hb := byt_get hlt
   have hc := (s[i]'hlt).toNat_lt
   by_cases a1 : (byt s i : Int) < lo
   ·have HF := Lib.hid (txtB_no (lo := lo) (mo := mo) hlt (show chB lo (byt s i) = false by unfold chB; simp; omega))
    have d1 : decide ((byt s i : Int) < lo) = true := decide_eq_true a1
    go_wp2_with fail
    go_ret
    exact ⟨by rw [HF.out]; try rfl, rfl⟩
   ·have d1 : decide ((byt s i : Int) < lo) = false := decide_eq_false a1
    by_cases a2 : 126 < byt s i
    ·have HF := Lib.hid (txtB_no (lo := lo) (mo := mo) hlt (show chB lo (byt s i) = false by unfold chB; simp; omega))
     go_wp2_with fail
     go_ret
     exact ⟨by rw [HF.out]; try rfl, rfl⟩
    ·have HP := Lib.hid (show (fun j => chB lo (byt s j)) i = true by show chB lo (byt s i) = true; unfold chB; simp; omega)
     go_wp2_with fail
     go_roundg (gk - 1)
     case measure => omega
     case rel => exact ⟨i + 1, by omega, by go_num, st_step HA.out HP.out, rfl⟩
  ·have HU := Lib.hid (txtB_all (lo := lo) (mo := mo) (s := s) (fun j hj => HA.out j (by omega)))
   go_wp2_with fail
   go_ret
   exact ⟨by rw [HU.out]; try rfl, rfl⟩
set_option maxHeartbeats 4000000 in
theorem ecode_any (s : ByteArray) (w : World) (hs : s.size ≤ maxLen) : Calls Tryz.prog 88 #[.string s] w fun e w' => e = .returned (.bool (codeB s)) ∧ w = w' := by
 have hm : s.size ≤ 9223372036854775807 := by unfold maxLen at hs; omega
 clear hs
 go_enter Tryz.func88, Tryz.ntmps88
 go_wp2_with fail
 go_loopg [6] s.size (StR w s (fun j => upB (byt s j)))
 case atStart => exact ⟨0, by omega, rfl, fun j hj => by omega, rfl⟩
 case round =>
  obtain ⟨i, hi, rfl, hall, rfl⟩ := hrel
  have HA := Lib.hid hall
  clear hall
  by_cases hlt : i < s.size
  ·have hb := byt_get hlt
   have hc := (s[i]'hlt).toNat_lt
   by_cases a1 : byt s i < 65
   ·have HF := Lib.hid (codeB_no hlt (show upB (byt s i) = false by unfold upB; simp; omega))
    go_wp2_with fail
    go_ret
    exact ⟨by rw [HF.out]; try rfl, rfl⟩
   ·by_cases a2 : 90 < byt s i
    ·have HF := Lib.hid (codeB_no hlt (show upB (byt s i) = false by unfold upB; simp; omega))
     go_wp2_with fail
     go_ret
     exact ⟨by rw [HF.out]; try rfl, rfl⟩
    ·have HP := Lib.hid (show (fun j => upB (byt s j)) i = true by show upB (byt s i) = true; unfold upB; simp; omega)
     go_wp2_with fail
     go_roundg (gk - 1)
     case measure => omega
     case rel => exact ⟨i + 1, by omega, by go_num, st_step HA.out HP.out, rfl⟩
  ·have HU := Lib.hid (codeB_all (s := s) (fun j hj => HA.out j (by omega)))
   have hin : i = s.size := by omega
   clear hin
   go_wp2_with fail
   go_ret
   exact ⟨by rw [HU.out]; exact congrArg (fun b => Ending.returned (Value.bool b)) (Bool.eq_iff_iff.2 (by simp; omega)), rfl⟩
theorem eday_any (n : Int) (w : World) : Calls Tryz.prog 87 #[.int .i64 n] w fun e w' => e = .returned (.bool (decide (0 ≤ n ∧ n ≤ 73048))) ∧ w = w' := by
 by_cases h : 0 ≤ n
 ·by_cases h2 : n ≤ 73048
  ·rw [decide_eq_true ⟨h, h2⟩]
   go_enter Tryz.func87, Tryz.ntmps87
   go_wp2_with fail
   go_ret
   exact ⟨by simp, rfl⟩
  ·rw [decide_eq_false (by omega)]
   go_enter Tryz.func87, Tryz.ntmps87
   go_wp2_with fail
   go_ret
   exact ⟨by simp, rfl⟩
 ·rw [decide_eq_false (by omega)]
  go_enter Tryz.func87, Tryz.ntmps87
  go_wp2_with fail
  go_ret
  exact ⟨by simp, rfl⟩
def keyB (s : ByteArray) : Bool := !s.toList.isEmpty && txtB 33 48 s
theorem ekey_any (s : ByteArray) (w : World) (hs : s.size ≤ maxLen) : Calls Tryz.prog 85 #[.string s] w fun e w' => e = .returned (.bool (keyB s)) ∧ w = w' := by
 have HS := Lib.hid hs
 clear hs
 cases h0 : s.toList.isEmpty
 ·have HK := Lib.hid (show keyB s = txtB 33 48 s by unfold keyB; rw [h0]; rfl)
  go_enter Tryz.func85, Tryz.ntmps85
  go_wp2_with (go_at_call 86; refine (etext_any _ _ _ _ HS.out).mono ?_; rintro e w' ⟨rfl, rfl⟩)
  go_ret
  exact ⟨by rw [HK.out]; try rfl, rfl⟩
 ·have HK := Lib.hid (show keyB s = false by unfold keyB; rw [h0]; rfl)
  go_enter Tryz.func85, Tryz.ntmps85
  go_wp2_with fail
  go_ret
  exact ⟨by rw [HK.out]; try rfl, rfl⟩
structure EnG (e : En) (c : ByteArray) : Prop where
 ke : keyB e.ke = true
 tx : txtB 32 64 e.tx = true
 bo : 0 ≤ e.bo ∧ e.bo ≤ 73048
 va : 0 ≤ e.va ∧ e.va ≤ 73048
 pe : 0 ≤ e.pe ∧ e.pe ≤ 73048
 ki : 1 ≤ e.ki ∧ e.ki ≤ 14
 au : 0 ≤ e.au ∧ e.au ≤ 3
 ln : 2 ≤ e.lg.length ∧ e.lg.length ≤ 12
 lg : ∀ j, j < e.lg.length → 1 ≤ e.lg[j]!.ac ∧ e.lg[j]!.am ≠ 0 ∧ -1000000000000 ≤ e.lg[j]!.am ∧ e.lg[j]!.am ≤ 1000000000000 ∧ e.lg[j]!.cu = c
 cu : codeB c = true
 su : sumA e.lg = 0
theorem size_txt {lo mo : Int} {s : ByteArray} (h : txtB lo mo s = true) : (s.size : Int) ≤ mo := by
 unfold txtB at h
 rw [Bool.and_eq_true] at h
 exact of_decide_eq_true h.1
theorem size_key {s : ByteArray} (h : keyB s = true) : s.size ≤ 48 := by
 unfold keyB at h
 rw [Bool.and_eq_true] at h
 have := size_txt h.2
 omega
theorem size_code {s : ByteArray} (h : codeB s = true) : s.size = 3 := by
 unfold codeB at h
 rw [Bool.and_eq_true] at h
 exact of_decide_eq_true h.1
def ChR (w : World) (e : En) (g : Nat) (s : Value) (W : World) : Prop := ∃ k : Nat, k + g = e.lg.length ∧ s = .int .i64 k ∧ Bk.Blk W w.heap.size #[.int .i64 (e).id, .int .i64 (e).bo, .int .i64 (e).va, .int .i64 (e).ki, .int .i64 (e).au, .int .i64 (e).pe, .string (e).ke, .string (e).tx, .slice (e).la (e).lg.length (e).lk, .int .u64 (e).ch] 80 ∧ Below w.heap.size w W
def Ch2R (w : World) (g3 c3 : Nat) (m : Mn) (g : Nat) (s : Value) (W : World) : Prop := ∃ k : Nat, k + g = 1 ∧ s = .int .i64 k ∧ OwnR mnenc 2 160 W w.heap.size g3 c3 [m] ∧ Below w.heap.size w W
set_option maxHeartbeats 16000000 in
theorem echeck_ok (e0 : En) (c : ByteArray) (w : World) (h : EnG e0 c) (hl : RowIn lgenc w e0.la e0.lg) : Calls Tryz.prog 55 #[(.agg #[.int .i64 (e0).id, .int .i64 (e0).bo, .int .i64 (e0).va, .int .i64 (e0).ki, .int .i64 (e0).au, .int .i64 (e0).pe, .string (e0).ke, .string (e0).tx, .slice (e0).la (e0).lg.length (e0).lk, .int .u64 (e0).ch])] w fun e w' => e = .returned (.int .i64 0) ∧ Below w.heap.size w w' := by
 have cw : Below w.heap.size w (w.alloc (.cells #[.int .i64 (e0).id, .int .i64 (e0).bo, .int .i64 (e0).va, .int .i64 (e0).ki, .int .i64 (e0).au, .int .i64 (e0).pe, .string (e0).ke, .string (e0).tx, .slice (e0).la (e0).lg.length (e0).lk, .int .u64 (e0).ch] 80)) := Bk.be
 have ke : Bk.Blk (w.alloc (.cells #[.int .i64 (e0).id, .int .i64 (e0).bo, .int .i64 (e0).va, .int .i64 (e0).ki, .int .i64 (e0).au, .int .i64 (e0).pe, .string (e0).ke, .string (e0).tx, .slice (e0).la (e0).lg.length (e0).lk, .int .u64 (e0).ch] 80)) w.heap.size _ 80 := Bk.Blk.nw10
 have HL := Lib.hid (fun (W : World) (hW : Below w.heap.size w W) => hl.later hW)
 have HG := Lib.hid h
 have HK := Lib.hid (fun (W : World) => (h.ke ▸ ekey_any e0.ke W (by have := size_key h.ke; unfold maxLen; omega) : Calls Tryz.prog 85 #[.string e0.ke] W fun e w' => e = .returned (.bool true) ∧ W = w'))
 have HT := Lib.hid (fun (W : World) => (h.tx ▸ etext_any e0.tx 32 64 W (by have := size_txt h.tx; unfold maxLen; omega) : Calls Tryz.prog 86 #[.string e0.tx, .int .u8 32, .int .i64 64] W fun e w' => e = .returned (.bool true) ∧ W = w'))
 have HD := Lib.hid (fun (n : Int) (W : World) (hn : 0 ≤ n ∧ n ≤ 73048) => (decide_eq_true hn ▸ eday_any n W : Calls Tryz.prog 87 #[.int .i64 n] W fun e w' => e = .returned (.bool true) ∧ W = w'))
 have HC := Lib.hid (fun (W : World) => (h.cu ▸ ecode_any c W (by have := size_code h.cu; unfold maxLen; omega) : Calls Tryz.prog 88 #[.string c] W fun e w' => e = .returned (.bool true) ∧ W = w'))
 have k1 := h.ki
 have k2 := h.au
 have k3 := h.ln
 clear h hl
 go_enter Tryz.func55, Tryz.ntmps55
 go_upto_region 1 with fail
 generalize (w.alloc (.cells _ 80)) = w1 at *
 have l1 := ke.c1
 have l2 := ke.c2
 have l3 := ke.c3
 have l4 := ke.c4
 have l5 := ke.c5
 have l6 := ke.c6
 have l7 := ke.c7
 have l8 := ke.c8
 have d1 : decide (e0.ki < 1) = false := decide_eq_false (by omega)
 have d2 : decide (14 < e0.ki) = false := decide_eq_false (by omega)
 have d3 : decide (e0.au < 0) = false := decide_eq_false (by omega)
 have d4 : decide (3 < e0.au) = false := decide_eq_false (by omega)
 have d5 : decide ((e0.lg.length : Int) < 2) = false := decide_eq_false (by omega)
 have d6 : decide ((12 : Int) < (e0.lg.length : Int)) = false := decide_eq_false (by omega)
 have kb1 := HG.out.bo
 have KB := Lib.hid (And.intro HG.out.bo (And.intro HG.out.va HG.out.pe))
 clear kb1
 go_upto_region 10 with (first | (go_at_call 85; refine (HK.out _).mono ?_; rintro e w' ⟨rfl, rfl⟩) | (go_at_call 86; refine (HT.out _).mono ?_; rintro e w' ⟨rfl, rfl⟩) | (go_at_call 87; refine (HD.out _ _ (by first | exact KB.out.1 | exact KB.out.2.1 | exact KB.out.2.2)).mono ?_; rintro e w' ⟨rfl, rfl⟩))
 clear l1 l2 l3 l4 l5 l6 l7 l8 d1 d2 d3 d4 d5 d6 k1 k2
 go_loopg [68] e0.lg.length (ChR w e0)
 case atStart => exact ⟨0, by omega, rfl, ke, cw⟩
 case round =>
  clear ke cw
  obtain ⟨k, hk, rfl, ke, hbr⟩ := hrel
  have hz1 := Below.size hbr
  by_cases hlt : k < e0.lg.length
  ·obtain ⟨b, off, ha, hc⟩ := rowat lgenc_len (HL.out _ hbr) (by omega)
   have hm := hc k hlt
   clear hc
   obtain ⟨x1, x2, x3, x4, x5⟩ := HG.out.lg k hlt
   obtain ⟨x, hxx⟩ : ∃ x, x = e0.lg[k]! := ⟨_, rfl⟩
   rw [← hxx] at hm x1 x2 x3 x4 x5
   have HX := Lib.hid (And.intro hxx x5)
   have b1 : decide (x.ac < 1) = false := decide_eq_false (by omega)
   have b2 : (x.am == 0) = false := beq_eq_false_iff_ne.2 x2
   have b3 : decide (x.am < -1000000000000) = false := decide_eq_false (by omega)
   have b4 : decide (1000000000000 < x.am) = false := decide_eq_false (by omega)
   have HCU := Lib.hid x5
   clear hxx x1 x2 x3 x4 x5
   rw [ha]
   have HA := Lib.hid ha
   clear ha
   go_upto_region 14 with ((refine wpList_load_mid rfl 76 _ rfl _ (off + k * 3) (by first | rfl | simp) ([.int .i64 (x).ac, .int .i64 (x).am, .string (x).cu]) _ (hm) Tryz.underlying76 rfl (by kernel_rfl) ?_))
   clear hm b1 b2 b3 b4
   have cx : Below wr.heap.size wr (wr.alloc (.cells #[.int .i64 (x).ac, .int .i64 (x).am, .string (x).cu] 76)) := Bk.be
   have kx : Bk.Blk (wr.alloc (.cells #[.int .i64 (x).ac, .int .i64 (x).am, .string (x).cu] 76)) wr.heap.size _ 76 := Bk.Blk.nw10
   have c2 := bl2 cx hbr
   replace ke := ke.later cx
   generalize wr.alloc (.cells _ 76) = w2 at *
   generalize wr.heap.size = g2 at *
   have x2 := kx.c2
   rw [HCU.out] at x2
   rw [← HA.out]
   clear cx hbr
   go_wp2_with fail
   refine (HC.out _).mono ?_
   rintro e w' ⟨rfl, rfl⟩
   go_wp2_with fail
   go_roundg (gk - 1)
   case measure => omega
   case rel => exact ⟨k + 1, by omega, by go_num, ke, c2⟩
  ·have hkn : k = e0.lg.length := by omega
   have l8 := ke.c8
   clear hkn
   go_wp2_with fail
   refine (sums1_any e0.la e0.lk e0.lg c _ (HL.out _ hbr) (by omega) (by omega) (fun j hj => (HG.out.lg j hj).2.2.2.2) (fun j hj => ⟨(HG.out.lg j hj).2.2.1, (HG.out.lg j hj).2.2.2.1⟩)).mono ?_
   rintro e w3 ⟨g3, c3, rfl, ho, hb⟩
   have c4 := bl2 hb hbr
   rw [HG.out.su] at ho
   replace ho : OwnR mnenc 2 160 w3 w.heap.size g3 c3 [⟨c, 0⟩] := ⟨by have := ho.1; omega, ho.2⟩
   clear hb hbr ke l8
   go_wp2_with fail
   go_loopg [99] 1 (Ch2R w g3 c3 ⟨c, 0⟩)
   case atStart => exact ⟨0, by omega, rfl, ho, c4⟩
   case round =>
    clear ho c4
    obtain ⟨k2, hk2, rfl, ho, hbr2⟩ := hrel
    have hz2 := Below.size hbr2
    by_cases hlt2 : k2 < 1
    ·obtain rfl : k2 = 0 := by omega
     have o0 := (own_cells ho).1
     have o1 := (own_cells ho).2.1
     go_wp2_with fail
     go_roundg (gk - 1)
     case measure => omega
     case rel => exact ⟨1, by omega, by go_num, ho.later ((Below.refl _ _).alloc (Nat.le_refl _) _), hbr2.alloc hz2 _⟩
    ·go_wp2_with fail
     go_ret
     exact ⟨rfl, hbr2⟩
end Go.Proofs.YtlolflephnbbcaaGreatDoor.Bm
namespace Go.Proofs.YtlolflephnbbcaaGreatDoor.Bm
open Go Go.RowKit
open Go.Proofs.YtlolflephnbbcaaGreatDoor
open Go.Proofs.YtlolflephnbbcaaGreatDoor.Ln (flat flat_len flat_get flat_mem RowIn OwnR Idx bl2 results2_cell Blk_setRow_same Blk_setRow_ne Below_setRow take_at one_at call_wp value_wp SB tk ts z0 z1 z2 z3 z4 z5)
open Go.Proofs.YtlolflephnbbcaaGreatDoor.Sr (GV)
set_option linter.unusedSimpArgs false
set_option linter.unusedVariables false
set_option maxRecDepth 100000

def PredL (g : Nat) (lb : Array Value) (p : Lg → Bool) (B : Nat) (w : World) : Prop := ∀ (d : Lg) (W : World), Below B w W → Calls Tryz.prog g (#[(.agg #[.int .i64 (d).ac, .int .i64 (d).am, .string (d).cu])] ++ lb) W fun e w' => e = .returned (.bool (p d)) ∧ Below W.heap.size W w'
set_option maxHeartbeats 4000000 in
theorem ixL_any (g : Nat) (lb : Array Value) (p : Lg → Bool) (a : Option Addr) (cap : Nat) (cs : List Lg) (w : World) (hn : cs.length ≤ 100000) (h : RowIn lgenc w a cs) (eg : ∀ args w, (callFunc g args).run Tryz.prog w = .ok (.enter g args) w) (hp : PredL g lb p w.heap.size w) :
  Calls Tryz.prog 174 #[.slice a cs.length cap, .func (.func g) #[] lb] w fun e w' => ∃ r, e = .returned (.int .i64 r) ∧ Idx p cs r ∧ Below w.heap.size w w' := by
 have H := Lib.hid h
 have HP := Lib.hid hp
 clear h hp
 go_enter Tryz.func174, Tryz.ntmps174
 go_wp2_with fail
 go_loopg [8] cs.length (SR1 w cs.length (fun k => ∀ j, j < k → p cs[j]! = false))
 case atStart => exact ⟨0, by omega, rfl, fun j hj => by omega, Below.refl _ _⟩
 case round =>
  obtain ⟨k, hk, rfl, hall, hbr⟩ := hrel
  have HA := Lib.hid hall
  clear hall
  by_cases hlt : k < cs.length
  ·obtain ⟨b, off, rfl, hc⟩ := rowat lgenc_len H.out (by omega)
   have hm := range_later hbr (hc k hlt)
   have hcall := HP.out cs[k]! wr hbr
   generalize hd : cs[k]! = d at *
   have HD := Lib.hid hd
   clear hc hd
   cases hv : p d
   ·rw [hv] at hcall
    have HV := Lib.hid hv
    clear hv
    go_wp2_with (refine wpList_load_mid rfl 76 _ rfl b (off + k * 3) (by first | rfl | simp) (lgenc d) _ hm Tryz.underlying76 rfl (by kernel_rfl) ?_)
    clear hm
    refine hcall.mono ?_
    rintro e w1 ⟨rfl, hb⟩
    go_wp2_with fail
    go_roundg (gk - 1)
    case measure => omega
    case rel => exact ⟨k + 1, by omega, by go_num, fun j hj => by
     by_cases e : j = k
     ·subst e; rw [HD.out]; exact HV.out
     ·exact HA.out j (by omega), bl2 hb hbr⟩
   ·rw [hv] at hcall
    have HV := Lib.hid hv
    clear hv
    go_wp2_with (refine wpList_load_mid rfl 76 _ rfl b (off + k * 3) (by first | rfl | simp) (lgenc d) _ hm Tryz.underlying76 rfl (by kernel_rfl) ?_)
    clear hm
    refine hcall.mono ?_
    rintro e w1 ⟨rfl, hb⟩
    go_wp2_with fail
    go_ret
    exact ⟨k, rfl, .inr ⟨k, hlt, rfl, by rw [HD.out]; exact HV.out, HA.out⟩, bl2 hb hbr⟩
  ·go_wp2_with fail
   go_ret
   exact ⟨-1, rfl, .inl ⟨rfl, fun j hj => HA.out j (by omega)⟩, hbr⟩
theorem cmpc_any (y : Lg) (B : Nat) (w : World) : CmpL 172 #[] y (fun d => cmpL d y) B w := by
 intro d W hW
 exact compare_any d y W
theorem cmpL_lt {d x : Lg} (h : d.ac < x.ac) : cmpL d x = -1 := by
 unfold cmpL cmpI orV
 rw [if_pos h]
 rfl
theorem gv_cap {α : Type} {enc : α → List Value} {k : Nat} {T : TypeId} {W : World} {B : Nat} {a : Option Addr} {n c : Nat} {xs : List α} (h : GV enc k T W B (.slice a n c) xs) : n = xs.length ∧ xs.length ≤ c := by
 obtain ⟨⟨hl, ho⟩, a', c', e⟩ := h
 have e1 := Value.slice.inj e
 rcases ho with ⟨e2, h2⟩ | ⟨g, cap, cur, e2, _, _, hc, _⟩
 ·have e3 := Value.slice.inj e2
  have : n = 0 := e3.2.1
  exact ⟨e1.2.1, by omega⟩
 ·have e3 := Value.slice.inj e2
  have := e3.2.2
  exact ⟨e1.2.1, by omega⟩
def ColR (w : World) (l : List Lg) (g : Nat) (s0 s11 : Value) (W : World) : Prop := ∃ (k : Nat) (a : Option Addr) (c : Nat), k + g = l.length ∧ s11 = .int .i64 k ∧ s0 = .slice a k c ∧ GV lgenc 3 76 W w.heap.size (.slice a k c) (l.take k) ∧ (0 < k → ∃ g, a = some ⟨g, 0, none⟩) ∧ Below w.heap.size w W
set_option maxHeartbeats 8000000 in
theorem collect1_any (a : Option Addr) (cap : Nat) (l : List Lg) (w : World) (h : RowIn lgenc w a l) (h0 : 0 < l.length) (hn : l.length ≤ 100000) (hasc : ∀ i j, i < j → j < l.length → l[i]!.ac < l[j]!.ac) :
  Calls Tryz.prog 139 #[.slice none 0 0, .slice a l.length cap] w fun e w' => ∃ g c, e = .returned (.slice (some ⟨g, 0, none⟩) l.length c) ∧ OwnR lgenc 3 76 w' w.heap.size g c l ∧ Below w.heap.size w w' := by
 have HL := Lib.hid h
 have HS := Lib.hid hasc
 have H0 := Lib.hid h0
 clear h hasc
 go_enter Tryz.func139, Tryz.ntmps139
 go_wp2_with fail
 go_loopg [0, 11] l.length (ColR w l)
 case atStart => exact ⟨0, none, 0, by omega, rfl, rfl, GV.nil _ _, fun h => absurd h (Nat.lt_irrefl _), Below.refl _ _⟩
 case round =>
  obtain ⟨k, a3, c3, hk, rfl, rfl, hgv, hsome, hbr⟩ := hrel
  have HO := Lib.hid hsome
  clear hsome
  by_cases hlt : k < l.length
  ·obtain ⟨b, off, rfl, hc⟩ := rowat lgenc_len HL.out (by omega)
   have hm := range_later hbr (hc k hlt)
   clear hc
   have htl : (l.take k).length = k := by rw [List.length_take]; omega
   have hgt : ∀ t, t < k → (l.take k)[t]! = l[t]! := fun t ht => by
    rw [getElem!_pos (l.take k) t (by omega), getElem!_pos l t (by omega), List.getElem_take]
   have hall : ∀ t, t < k → cmpL (l.take k)[t]! l[k]! < 0 := fun t ht => by
    rw [hgt t ht, cmpL_lt (HS.out t k ht hlt)]; decide
   have htk : l.take k ++ [l[k]!] = l.take (k + 1) := (Ln.take_succ' hlt).symm
   obtain ⟨x, hxx⟩ : ∃ x, x = l[k]! := ⟨_, rfl⟩
   rw [← hxx] at hm hall htk
   have HALL := Lib.hid hall
   have HT := Lib.hid (And.intro htl htk)
   clear hxx hall htl hgt htk
   have cx : Below wr.heap.size wr (wr.alloc (.cells #[.int .i64 (x).ac, .int .i64 (x).am, .string (x).cu] 76)) := Bk.be
   have kx : Bk.Blk (wr.alloc (.cells #[.int .i64 (x).ac, .int .i64 (x).am, .string (x).cu] 76)) wr.heap.size _ 76 := Bk.Blk.nw10
   have c2 := bl2 cx hbr
   have hgv2 := hgv.later cx
   go_upto_region 4 with ((refine wpList_load_mid rfl 76 _ rfl _ (off + k * 3) (by first | rfl | simp) ([.int .i64 (x).ac, .int .i64 (x).am, .string (x).cu]) _ (hm) Tryz.underlying76 rfl (by kernel_rfl) ?_))
   clear hm hbr hgv cx
   generalize wr.alloc (.cells _ 76) = w2 at *
   generalize wr.heap.size = g2 at *
   obtain ⟨a4, c4, e4, hrow, _⟩ := hgv2.row
   have hrow' : RowIn lgenc w2 a3 (l.take k) := by
    have := Value.slice.inj e4
    rw [this.1]; exact hrow
   have HROW := Lib.hid hrow'
   have HGV := Lib.hid hgv2
   clear e4 hrow hrow' hgv2
   go_wp2_with ((refine wpList_load_row rfl 76 _ rfl _ rfl _ _ _ _ (kx) Tryz.underlying76 rfl (by kernel_rfl) ?_))
   refine (show Calls Tryz.prog 171 #[.slice a3 k c3, (.agg #[.int .i64 (x).ac, .int .i64 (x).am, .string (x).cu]), .func (.func 172) #[] #[]] w2 _ from HT.out.1 ▸ bsL_any 172 #[] x (fun d => cmpL d x) a3 c3 (l.take k) w2 (by rw [HT.out.1]; omega) HROW.out (enters_of Tryz.func172 (by kernel_rfl) rfl) (cmpc_any _ _ _) (fun p q hp hq _ => HALL.out p (by rw [HT.out.1] at hq; omega))).mono ?_
   rintro e w3 ⟨i, rfl, hi, hb⟩
   obtain rfl : i = k := by
    have h1 := hi.1
    rw [HT.out.1] at h1
    apply Classical.byContradiction
    intro hne
    have h2 : 0 ≤ cmpL (l.take k)[i]! x := hi.2.2 i (Nat.le_refl _) (by rw [HT.out.1]; omega)
    have h3 := HALL.out i (by omega)
    omega
   rw [show BsF (fun d => cmpL d x) (l.take i) i = false by unfold BsF; rw [decide_eq_false (by rw [HT.out.1]; omega)]; rfl]
   have c3' := bl2 hb c2
   have z3 := Below.size c3'
   replace kx := kx.later hb
   have hgv3 := HGV.out.later hb
   have hcap := (gv_cap hgv3).2
   rw [HT.out.1] at hcap
   have HGV3 := Lib.hid hgv3
   clear hi hb c2 hgv3
   go_wp2_with ((refine wpList_load_row rfl 76 _ rfl _ rfl _ _ _ _ (kx) Tryz.underlying76 rfl (by kernel_rfl) ?_))
   refine (show Calls Tryz.prog 173 #[.slice a3 i c3, .int .i64 (i : Int), .slice (some ⟨w3.heap.size, 0, none⟩) 1 1] (w3.alloc (.cells #[.int .i64 (x).ac, .int .i64 (x).am, .string (x).cu] 76)) _ from (by
    have h := insL_end a3 c3 (l.take i) x w3.heap.size w.heap.size (w3.alloc (.cells #[.int .i64 (x).ac, .int .i64 (x).am, .string (x).cu] 76)) (by rw [HT.out.1]; exact HGV3.out.later ((Below.refl _ _).alloc (Nat.le_refl _) _)) Bk.Blk.nw10 (by rw [HT.out.1]; omega) (by rw [HT.out.1]; exact hcap) (by simp; omega)
    rw [HT.out.1] at h
    exact h)).mono ?_
   rintro e w4 ⟨g4, c4, rfl, hg4, hb4, _, _⟩
   have c5 : Below w.heap.size w w4 := (c3'.alloc z3 _).trans hb4
   have HG4 := Lib.hid hg4
   clear hg4 hb4 c3'
   go_wp2_with fail
   go_roundg (gk - 1)
   case measure => omega
   case rel => exact ⟨i + 1, some ⟨g4, 0, none⟩, c4, by omega, by go_num, rfl, by rw [← HT.out.2]; exact HG4.out, fun _ => ⟨g4, rfl⟩, c5⟩
  ·obtain rfl : k = l.length := by omega
   obtain ⟨g3, rfl⟩ := HO.out H0.out
   have HQ := Lib.hid hgv
   clear hgv
   go_wp2_with fail
   go_ret
   exact ⟨g3, c3, rfl, by have := gv_own HQ.out; rw [List.take_length] at this; exact this, hbr⟩
theorem net1_any (B : Nat) (w : World) : PredL 141 #[] (fun d => d.am == 0) B w := by
 intro d W hW
 show Calls Tryz.prog 141 #[(.agg #[.int .i64 (d).ac, .int .i64 (d).am, .string (d).cu])] W _
 go_enter Tryz.func141, Tryz.ntmps141
 go_wp2_with fail
 go_ret
 exact ⟨by first | rfl | simp, (Below.refl _ _).alloc (Nat.le_refl _) _⟩
set_option maxHeartbeats 4000000 in
theorem del0_any (g : Nat) (lb : Array Value) (p : Lg → Bool) (a : Option Addr) (cap : Nat) (cs : List Lg) (w : World) (hn : cs.length ≤ 100000) (h : RowIn lgenc w a cs) (eg : ∀ args w, (callFunc g args).run Tryz.prog w = .ok (.enter g args) w) (hp : PredL g lb p w.heap.size w) (hno : ∀ j, j < cs.length → p cs[j]! = false) :
  Calls Tryz.prog 140 #[.slice a cs.length cap, .func (.func g) #[] lb] w fun e w' => e = .returned (.slice a cs.length cap) ∧ Below w.heap.size w w' := by
 have H := Lib.hid (ixL_any g lb p a cap cs w hn h eg hp)
 have HN := Lib.hid hno
 clear h eg hp hno
 go_enter Tryz.func140, Tryz.ntmps140
 go_wp2_with fail
 refine H.out.mono ?_
 rintro e w1 ⟨r, rfl, hx, hb⟩
 obtain rfl : r = -1 := by
  rcases hx with ⟨h, _⟩ | ⟨k, hk, _, h1, _⟩
  ·exact h
  ·have := HN.out k hk; rw [this] at h1; cases h1
 clear hx
 go_wp2_with fail
 go_ret
 exact ⟨rfl, hb⟩
set_option maxHeartbeats 4000000 in
theorem net_any (a : Option Addr) (cap : Nat) (l : List Lg) (w : World) (h : RowIn lgenc w a l) (h0 : 0 < l.length) (hn : l.length ≤ 100000) (hasc : ∀ i j, i < j → j < l.length → l[i]!.ac < l[j]!.ac) (hno : ∀ j, j < l.length → (l[j]!.am == 0) = false) :
  Calls Tryz.prog 94 #[.slice a l.length cap] w fun e w' => ∃ g c, e = .returned (.slice (some ⟨g, 0, none⟩) l.length c) ∧ OwnR lgenc 3 76 w' w.heap.size g c l ∧ Below w.heap.size w w' := by
 have H := Lib.hid (collect1_any a cap l w h h0 hn hasc)
 have HN := Lib.hid hno
 clear h hasc hno
 go_enter Tryz.func94, Tryz.ntmps94
 go_wp2_with fail
 refine H.out.mono ?_
 rintro e w1 ⟨g, c, rfl, ho, hb⟩
 have HO := Lib.hid ho
 have c1 := hb
 clear ho hb
 go_wp2_with fail
 refine (del0_any 141 #[] (fun d => d.am == 0) (some ⟨g, 0, none⟩) c l w1 hn HO.out.row (enters_of Tryz.func141 (by kernel_rfl) rfl) (net1_any _ _) HN.out).mono ?_
 rintro e w2 ⟨rfl, hb⟩
 have c2 := bl2 hb c1
 have HO2 := Lib.hid (HO.out.later hb)
 clear hb c1
 go_wp2_with fail
 go_ret
 exact ⟨g, c, rfl, HO2.out, c2⟩
end Go.Proofs.YtlolflephnbbcaaGreatDoor.Bm
