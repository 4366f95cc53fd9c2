/-
  Parts of the proof: Lp2, Lnr, Lp3.
-/
import Derived.Test.YtlolflephnbbcaaGreatDoorQ18
import Derived.Deep.AppendLies
import Derived.Deep.RegionLaw
import Derived.Test.YtlolflephnbbcaaGreatDoorQ15
namespace Go.Proofs.YtlolflephnbbcaaGreatDoor.Ln
open Go.RowKit
open Go.Proofs.YtlolflephnbbcaaGreatDoor
set_option maxRecDepth 100000

set_option maxHeartbeats 2000000 in
theorem tpred_any (kd : Int) (g : Nat) (d : Pa) (w : World) (hb : Bk.Blk w g #[.int .i64 kd] 3) :
  Calls Tryz.prog 104 #[.agg #[.int .i64 d.kd, .int .i64 d.am], .pointer (some ⟨g, 0, none⟩)] w fun e w' => e = .returned (.bool (d.kd == kd)) ∧ Below w.heap.size w w' := by
 have b0 := Below.refl w.heap.size w
 have c0 := hb.alloc (o := .cells #[.int .i64 d.kd, .int .i64 d.am] 91)
 have c1 := c0.c0
 go_enter Tryz.func104, Tryz.ntmps104
 go_wp2_with fail
 go_ret
 exact ⟨rfl, Bk.be⟩
def firstK (ow : List Pa) : Int := match ow with | [] => 5 | x :: _ => x.kd
set_option maxHeartbeats 2000000 in
theorem first_any (g : Nat) (n : Int) (a : Option Addr) (c : Nat) (ow : List Pa) (v : Value) (w : World) (hk : Bk.Blk w g #[.int .i64 n, .slice a ow.length c, v] 135) (hrow : RowIn penc w a ow) :
  Calls Tryz.prog 63 #[.pointer (some ⟨g, 0, none⟩)] w fun e w' => e = .returned (.int .i64 (firstK ow)) ∧ w = w' := by
 have k1 := hk.c1
 cases ow with
 | nil =>
  go_enter Tryz.func63, Tryz.ntmps63
  go_wp2_with fail
  go_ret
  exact ⟨rfl, rfl⟩
 | cons x xs =>
  obtain ⟨b, off, rfl, hc⟩ := hrow.parts (by simp)
  obtain ⟨c0, c1⟩ := hc 0 (by simp)
  simp at c0 c1 k1
  go_enter Tryz.func63, Tryz.ntmps63
  go_wp2_with fail
  go_ret
  exact ⟨rfl, rfl⟩
theorem step_part {ops : Array Oper} {o : Oper} {a : Act} {K : Act → World → Prop} {Q : Exit → Act → World → Prop} {E : Prop} {W : World} {B : Nat} {v : Value} {ps : List Pa} (x : Pa) (hgd : o.guard = none) (s y : Operand)
  (ho : o.op = .call { callee := .builtin .append, args := #[s, y], argTypes := #[83, 83] }) (hs : a.eval s = v) (hr : PV W B v ps) (gx : Nat)
  (hy : a.eval y = .slice (some ⟨gx, 0, none⟩) 1 1) (hb : Bk.Blk W gx #[.int .i64 x.kd, .int .i64 x.am] 91) (hl : ps.length ≤ 100) (hB : B ≤ W.heap.size) (H : Nat) (hH : W.heap.size = H)
  (h : ∀ g c w', PV w' B (.slice (some ⟨g, 0, none⟩) (ps.length + 1) c) (ps ++ [x]) → W.grownBy w' v.ownBlock → (v.ownBlock = some g ∨ g = H) → g < w'.heap.size → K (a.put o.dst (.slice (some ⟨g, 0, none⟩) (ps.length + 1) c)) w') :
  if Region.wanted o (yielded ops a.tmps) = true then Oper.wp Tryz.prog o a W K Q else E := by
 obtain ⟨i, hi, hzz⟩ := Option.map_eq_some_iff.1 part_info
 simp only [Prod.mk.injEq] at hzz
 obtain ⟨hz, hsz, hby⟩ := hzz
 refine step_append_lies _ hgd s y 83 ho B 91 i (.agg #[.int .i64 0, .int .i64 0]) 2 16 Tryz.underlying83 hi hz hsz hby rfl (by decide) v ps.length (flat penc ps) hs hr.1 ⟨gx, 0, none⟩ 1 1 (penc x) hy rfl ?_ (penc_one x) (by omega) (by unfold maxLen; omega) (by omega) hB H hH ?_
 ·intro j u hj
  rw [show (⟨gx, 0, none⟩ : Addr).add j = ⟨gx, 0 + j, none⟩ from Go.WideShapes.add_plain .., Nat.zero_add, hb.cell]
  simpa [penc] using hj
 ·intro g c w' hown hgr hat hlt
  refine h g c w' ?_ hgr hat hlt
  have e : flat penc ps ++ penc x = flat penc (ps ++ [x]) := by simp [flat]
  rw [e] at hown
  refine ⟨?_, some ⟨g, 0, none⟩, c, by simp⟩
  simpa using hown
structure Fx (g : Nat) (o : Option Nat) (W W' : World) : Prop where
 os : W'.os = W.os
 tape : W'.tape = W.tape
 output : W'.output = W.output
 size : W.heap.size ≤ W'.heap.size
 block : ∀ j, j < W.heap.size → j ≠ g → o ≠ some j → W'.heap[j]? = W.heap[j]?
theorem Fx.below {g B : Nat} {o : Option Nat} {w W W' : World} (h : Fx g o W W') (hb : Below B w W) (hw : B ≤ W.heap.size) (hg : B ≤ g) (ho : ∀ j, o = some j → B ≤ j) : Below B w W' :=
 ⟨h.os.trans hb.os, h.tape.trans hb.tape, h.output.trans hb.output, Nat.le_trans hb.size h.size, fun k hk => (h.block k (by omega) (by omega) (fun he => by have := ho k he; omega)).trans (hb.block k hk)⟩
theorem Fx.of_below {g : Nat} {o : Option Nat} {W W' : World} (h : Below W.heap.size W W') : Fx g o W W' := ⟨h.os, h.tape, h.output, h.size, fun j hj _ _ => h.block j hj⟩
def takeN (ow : List Pa) (kd n : Int) : Int := match ow.find? (fun p => p.kd == kd) with | none => 0 | some x => min n x.am
theorem find_idx {p : Pa → Bool} : ∀ {l : List Pa} {r : Int}, Idx p l r → (r = -1 ∧ l.find? p = none) ∨ ∃ k : Nat, k < l.length ∧ r = k ∧ l.find? p = some l[k]! := by
 intro l r h
 rcases h with ⟨rfl, ha⟩ | ⟨k, hk, rfl, ht, ha⟩
 ·refine .inl ⟨rfl, ?_⟩
  rw [List.find?_eq_none]
  intro x hx
  obtain ⟨j, hj, rfl⟩ := List.mem_iff_getElem.1 hx
  have := ha j hj
  rw [getElem!_pos l j hj] at this
  simp [this]
 ·refine .inr ⟨k, hk, rfl, ?_⟩
  rw [getElem!_pos l k hk] at ht ⊢
  rw [List.find?_eq_some_iff_getElem]
  refine ⟨ht, k, hk, rfl, fun j hj => ?_⟩
  have := ha j hj
  rw [getElem!_pos l j (by omega)] at this
  simp [this]
set_option maxHeartbeats 8000000 in
theorem take_any (g B : Nat) (kd n : Int) (a : Option Addr) (c : Nat) (ow ps : List Pa) (v : Value) (w : World) (hk : Bk.Blk w g #[.int .i64 n, .slice a ow.length c, v] 135) (hrow : RowIn penc w a ow) (hpv : PV w B v ps)
  (hB : B ≤ g) (hne : v.ownBlock ≠ some g) (hra : ∀ ad, a = some ad → ad.block ≠ g ∧ v.ownBlock ≠ some ad.block) (hl : ps.length ≤ 50) (hn : ow.length ≤ 4) (n0 : 0 ≤ n) (n1 : n ≤ 1000000000000) (ham : ∀ p ∈ ow, 0 < p.am ∧ p.am ≤ 1000000000000000) :
  Calls Tryz.prog 64 #[.pointer (some ⟨g, 0, none⟩), .int .i64 kd] w fun e w' => e = .returned (.int .i64 (takeN ow kd n)) ∧ ∃ v', PV w' B v' (ps ++ pparts [⟨kd, takeN ow kd n⟩]) ∧ Bk.Blk w' g #[.int .i64 (n - takeN ow kd n), .slice a ow.length c, v'] 135 ∧ (v'.ownBlock = v.ownBlock ∨ ∃ j, v'.ownBlock = some j ∧ w.heap.size ≤ j) ∧ Fx g v.ownBlock w w' := by
 have HH := Lib.hid (fun (W : World) (hW : Below w.heap.size w W) (hbx : Bk.Blk W w.heap.size #[.int .i64 kd] 3) => ixq_any 104 #[.pointer (some ⟨w.heap.size, 0, none⟩)] (fun d => d.kd == kd) a c ow W (hrow.later hW) (by omega) (fun _ _ => rfl) (fun d W' hW' => tpred_any kd w.heap.size d W' (hbx.later hW')))
 have hbx := Bk.Blk.nw10 (W := w) (cs := #[.int .i64 kd]) (t := 3)
 have b1 : Below w.heap.size w (w.alloc (.cells #[.int .i64 kd] 3)) := (Below.refl _ _).alloc (Nat.le_refl _) _
 have hk1 := hk.later b1
 have q1 := hk1.c1
 go_enter Tryz.func64, Tryz.ntmps64
 go_wp2_with fail
 refine (HH.out _ b1 hbx).mono ?_
 rintro e w2 ⟨r, rfl, hidx, hb2⟩
 have HF := Lib.hid (find_idx hidx)
 have hx2 := hbx.later hb2
 have b2 : Below w.heap.size w w2 := bl2 hb2 b1
 have hk2 := hk.later b2
 have hpv2 := hpv.later b2
 have hrow2 := hrow.later b2
 have s2 := b2.size
 have HPV := Lib.hid hpv2
 have l0 := hk2.c0
 have l1 := hk2.c1
 have l2 := hk2.c2
 clear hidx q1 hk1 hbx b1 hb2 HH hpv hpv2 hrow
 have HZ : Hid (takeN ow kd n = 0 → PV w2 B v (ps ++ pparts [⟨kd, takeN ow kd n⟩]) ∧ Bk.Blk w2 g #[.int .i64 (n - takeN ow kd n), .slice a ow.length c, v] 135) := Lib.hid (fun h0 => by
  rw [h0, show pparts [⟨kd, 0⟩] = [] from rfl, List.append_nil, Int.sub_zero]
  exact ⟨HPV.out, hk2⟩)
 rcases HF.out with ⟨rfl, hnone⟩ | ⟨k, hkl, rfl, hsome⟩
 ·have ht : takeN ow kd n = 0 := by unfold takeN; rw [hnone]
  have HT := Lib.hid ht
  clear hnone ht
  go_wp2_with fail
  go_ret
  exact ⟨by rw [HT.out]; rfl, v, (HZ.out HT.out).1, (HZ.out HT.out).2, .inl rfl, .of_below b2⟩
 ·have ht : takeN ow kd n = min n ow[k]!.am := by unfold takeN; rw [hsome]
  have hpos := ham ow[k]! (by rw [getElem!_pos ow k hkl]; exact List.getElem_mem hkl)
  by_cases h0 : n = 0
  ·have HT := Lib.hid (show takeN ow kd n = 0 by rw [ht]; omega)
   have g0 : (n == 0) = true := by simp [h0]
   clear hsome ht h0
   go_wp2_with fail
   go_ret
   exact ⟨by rw [HT.out]; rfl, v, (HZ.out HT.out).1, (HZ.out HT.out).2, .inl rfl, .of_below b2⟩
  ·have g0 : (n == 0) = false := by simp [h0]
   obtain ⟨am, hamd⟩ : ∃ am, am = min n ow[k]!.am := ⟨_, rfl⟩
   rw [← hamd] at ht
   have HIF := Lib.hid (show (if ow[k]!.am < n then ow[k]!.am else n) = am by rw [hamd]; split <;> omega)
   have HT := Lib.hid ht
   have HA := Lib.hid (show 0 < am ∧ am ≤ n by omega)
   obtain ⟨b, off, rfl, hc⟩ := hrow2.parts (by omega)
   obtain ⟨c0, c1⟩ := hc k hkl
   have hga := hra _ rfl
   clear hsome ht h0 hamd hpos hc hrow2 HZ HF ham
   generalize ow[k]! = x at *
   go_wp2_with fail
   go_region
   rw [HIF.out]
   have hg2 := hk2.lt
   have hk3 : Bk.Blk w2.drew g _ _ := hk2.drew
   have hx3 : Bk.Blk w2.drew w.heap.size _ _ := hx2.drew
   have hpv3 : PV w2.drew B v ps := HPV.out.blk (fun _ _ => rfl)
   have b3 : Below w.heap.size w w2.drew := b2.drew
   clear hk2 hx2 b2 l0 l1 l2 c0 c1 HIF HPV
   have z3 : w.heap.size ≤ w2.drew.heap.size := b3.size
   generalize w2.drew = w3 at *
   have l0 := hk3.c0
   have m0 := hk3.f0
   have hg3 := hk3.lt
   have hwm : IntKind.i64.wrap (n - am) = n - am := by rw [IntKind.wrap_i64]; have := HA.out; omega
   go_upto_region 6 with fail
   have hk4 : Bk.Blk (w3.setCell ⟨g, 0, none⟩ (.int .i64 (n - am))) g #[.int .i64 (n - am), .slice (some ⟨b, off, none⟩) ow.length c, v] 135 := hk3.set_same
   have hx4 : Bk.Blk (w3.setCell ⟨g, 0, none⟩ (.int .i64 (n - am))) w.heap.size #[.int .i64 kd] 3 := hx3.set_ne (by have := hk.lt; omega)
   have hpv4 : PV (w3.setCell ⟨g, 0, none⟩ (.int .i64 (n - am))) B v ps := hpv3.blk (fun j hj => Below.heap_setCell _ _ _ _ (fun he => hne (by rw [hj]; exact congrArg some he)))
   have hfx : Fx g v.ownBlock w (w3.setCell ⟨g, 0, none⟩ (.int .i64 (n - am))) := ⟨b3.os, b3.tape, b3.output, by simpa using b3.size, fun j hj h1 _ => (Below.heap_setCell _ _ _ _ h1).trans (b3.block j hj)⟩
   have z4 : w.heap.size ≤ (w3.setCell ⟨g, 0, none⟩ (.int .i64 (n - am))).heap.size := hfx.size
   clear hk3 hx3 hpv3 b3 l0 m0 hg3
   generalize w3.setCell ⟨g, 0, none⟩ (.int .i64 (n - am)) = w4 at *
   have l2 := hk4.c2
   have lx := hx4.c0
   have l2' := (hk4.alloc (o := .cells #[.int .i64 kd, .int .i64 am] 91)).c2
   have lx' := (hx4.alloc (o := .cells #[.int .i64 kd, .int .i64 am] 91)).c0
   have hg4 := hk4.lt
   have hal : Below w4.heap.size w4 (w4.alloc (.cells #[.int .i64 kd, .int .i64 am] 91)).drew := ((Below.refl _ _).alloc (Nat.le_refl _) _).drew
   have HPV4 := Lib.hid (hpv4.later hal)
   have HNW := Lib.hid (show Bk.Blk (w4.alloc (.cells #[.int .i64 kd, .int .i64 am] 91)).drew w4.heap.size #[.int .i64 kd, .int .i64 am] 91 from Bk.Blk.nw10)
   have HSZ := Lib.hid (show B ≤ (w4.alloc (.cells #[.int .i64 kd, .int .i64 am] 91)).drew.heap.size ∧ w4.heap.size < (w4.alloc (.cells #[.int .i64 kd, .int .i64 am] 91)).drew.heap.size from ⟨by have := hal.size; omega, by simp⟩)
   have HK4 := Lib.hid (hk4.later hal)
   have HAL := Lib.hid hal
   have HFX := Lib.hid hfx
   clear hpv4 hal hfx
   go_region_law (refine step_part ⟨kd, am⟩ rfl (.tmp 47) (.tmp 51) rfl rfl HPV4.out w4.heap.size rfl HNW.out (by omega) HSZ.out.1 _ rfl ?_; intro g' c' w' hpv' hgr hat hlt; replace hgr : World.grownBy (w4.alloc (.cells #[.int .i64 kd, .int .i64 am] 91)).drew w' v.ownBlock := hgr; replace hat : v.ownBlock = some g' ∨ g' = (w4.alloc (.cells #[.int .i64 kd, .int .i64 am] 91)).drew.heap.size := hat; have hk' : Bk.Blk w' g #[.int .i64 (n - am), .slice (some ⟨b, off, none⟩) ow.length c, v] 135 := (hgr.block _ (by have := HSZ.out; omega) (Ne.symm hne)).trans HK4.out; have f2 := hk'.f2; have e2 := hk'.c2)
   all_goals
    have hgg : g ≠ g' := fun he => by
     rcases hat with hat | hat
     ·exact hne (by rw [hat, he])
     ·have := HSZ.out.2; omega
    have hfx' : Fx g v.ownBlock w w' := ⟨hgr.os.trans HFX.out.os, hgr.tape.trans HFX.out.tape, hgr.output.trans HFX.out.output, Nat.le_trans (by have := HSZ.out; omega) hgr.size, fun j hj h1 h2 => (hgr.block j (by have := HSZ.out; omega) (Ne.symm h2)).trans ((HAL.out.block j (by omega)).trans (HFX.out.block j hj h1 h2))⟩
    have HF := Lib.hid (show Fx g v.ownBlock w (w'.setCell ⟨g, 2, none⟩ (.slice (some ⟨g', 0, none⟩) (ps.length + 1) c')) from ⟨hfx'.os, hfx'.tape, hfx'.output, by simpa using hfx'.size, fun j hj h1 h2 => (Below.heap_setCell _ _ _ _ h1).trans (hfx'.block j hj h1 h2)⟩)
    have HK := Lib.hid (show Bk.Blk (w'.setCell ⟨g, 2, none⟩ (.slice (some ⟨g', 0, none⟩) (ps.length + 1) c')) g #[.int .i64 (n - am), .slice (some ⟨b, off, none⟩) ow.length c, .slice (some ⟨g', 0, none⟩) (ps.length + 1) c'] 135 from hk'.set_same)
    have HP := Lib.hid (show PV (w'.setCell ⟨g, 2, none⟩ (.slice (some ⟨g', 0, none⟩) (ps.length + 1) c')) B (.slice (some ⟨g', 0, none⟩) (ps.length + 1) c') (ps ++ [⟨kd, am⟩]) from hpv'.blk (fun j hj => Below.heap_setCell _ _ _ _ (fun he => hgg ((Option.some.inj hj).trans he).symm)))
    have HO := Lib.hid (show g' = g' ∧ (v.ownBlock = some g' ∨ w.heap.size ≤ g') from ⟨rfl, hat.imp id (fun h => by have := HSZ.out.2; omega)⟩)
    clear hpv' hgr hat hk' f2 e2 hfx' hgg
    go_wp2_with fail
    go_ret
    refine ⟨by rw [HT.out]; rfl, _, ?_, by rw [HT.out]; exact HK.out, ?_, HF.out⟩
    ·rw [HT.out, show pparts [⟨kd, am⟩] = [⟨kd, am⟩] by have := HA.out; simp [pparts]; omega]
     exact HP.out
    ·exact HO.out.2.imp (fun h => h.symm) (fun h => ⟨g', rfl, h⟩)

theorem find_pp (k : Int) : ∀ l : List Pa, (pparts l).find? (fun p => p.kd == k) = l.find? (fun p => decide (0 < p.am) && p.kd == k) := by
 intro l
 unfold pparts
 rw [List.find?_filter]
 congr 1
 funext p
 simp
 rfl
theorem takeN_one {n o : Int} (hn : 0 ≤ n) : (if 0 < o then min n o else 0) = give n o := by
 unfold give pos
 split <;> (repeat' split) <;> omega
theorem takeN_1 (l : Lo) (on : Int) {n : Int} (hn : 0 ≤ n) : takeN (powed l on) 1 n = give n l.fee := by
 rw [← takeN_one hn]; unfold takeN powed; rw [find_pp]
 by_cases h : 0 < l.fee <;> simp [h, List.find?]
theorem takeN_2 (l : Lo) (on : Int) {n : Int} (hn : 0 ≤ n) : takeN (powed l on) 2 n = give n l.pen := by
 rw [← takeN_one hn]; unfold takeN powed; rw [find_pp]
 by_cases h : 0 < l.pen <;> simp [h, List.find?]
theorem takeN_3 (l : Lo) (on : Int) {n : Int} (hn : 0 ≤ n) : takeN (powed l on) 3 n = give n (oI l on) := by
 rw [← takeN_one hn]; unfold takeN powed; rw [find_pp]
 by_cases h : 0 < oI l on <;> simp [h, List.find?]
theorem takeN_4 (l : Lo) (on : Int) {n : Int} (hn : 0 ≤ n) : takeN (powed l on) 4 n = give n (oP l on) := by
 rw [← takeN_one hn]; unfold takeN powed; rw [find_pp]
 by_cases h : 0 < oP l on <;> simp [h, List.find?]
theorem first_cases (l : Lo) (on : Int) : (firstK (powed l on) = 1) ∨ (firstK (powed l on) = 2 ∧ ¬0 < l.fee) ∨ (firstK (powed l on) = 3 ∧ ¬0 < l.fee ∧ ¬0 < l.pen) ∨ (firstK (powed l on) = 4 ∧ ¬0 < l.fee ∧ ¬0 < l.pen ∧ ¬0 < oI l on) ∨ (firstK (powed l on) = 5 ∧ ¬0 < l.fee ∧ ¬0 < l.pen ∧ ¬0 < oI l on ∧ ¬0 < oP l on) := by
 unfold powed pparts
 by_cases h1 : 0 < l.fee
 ·exact .inl (by simp [h1, firstK])
 ·by_cases h2 : 0 < l.pen
  ·exact .inr (.inl ⟨by simp [h1, h2, firstK], h1⟩)
  ·by_cases h3 : 0 < oI l on
   ·exact .inr (.inr (.inl ⟨by simp [h1, h2, h3, firstK], h1, h2⟩))
   ·by_cases h4 : 0 < oP l on
    ·exact .inr (.inr (.inr (.inl ⟨by simp [h1, h2, h3, h4, firstK], h1, h2, h3⟩)))
    ·exact .inr (.inr (.inr (.inr ⟨by simp [h1, h2, h3, h4, firstK], h1, h2, h3, h4⟩)))

structure PTl (w W : World) (g : Nat) (sl : Value) (L : Lo) (da ca : Option Addr) (dk ck : Nat) (n : Int) (v : Value) (ps : List Pa) : Prop where
 k : Bk.Blk W w.heap.size #[.int .i64 (L).id, .int .i64 (L).ac, .int .i64 (L).st, .int .i64 (L).pp, .int .i64 (L).pi, .int .i64 (L).fee, .int .i64 (L).pen, .int .i64 (L).chg, .int .i64 (L).prov, .int .i64 (L).loss, .int .i64 (L).rcv, .int .i64 ((L).tm).me, .int .i64 ((L).tm).pr, .int .i64 ((L).tm).ppm, .int .i64 ((L).tm).stt, .int .i64 ((L).tm).ev, .int .i64 ((L).tm).ct, .int .i64 ((L).tm).ba, .int .i64 ((L).tm).mo, .int .i64 ((L).tm).pen, .int .i64 ((L).tm).fe, .string ((L).tm).cal, .string ((L).tm).cur, .slice da (L).ds.length dk, .slice ca (L).cs.length ck] 32
 z : Bk.Blk W (w.heap.size + 1) #[.int .i64 0, .int .i64 0, .int .i64 0, .int .i64 0, .int .i64 0, .int .i64 0, .int .i64 0, .int .i64 0, .int .i64 0, .int .i64 0, .int .i64 0, .int .i64 0, .int .i64 0, .int .i64 0, .int .i64 0, .int .i64 0, .int .i64 0, .int .i64 0, .int .i64 0, .int .i64 0, .int .i64 0, .string .empty, .string .empty, .slice none 0 0, .slice none 0 0] 32
 p : Bk.Blk W g #[.int .i64 n, sl, v] 135
 pv : PV W w.heap.size v ps
 ap : v.ownBlock ≠ some w.heap.size ∧ v.ownBlock ≠ some (w.heap.size + 1) ∧ v.ownBlock ≠ some g
 b : Below w.heap.size w W
 g1 : w.heap.size + 1 < g
structure PSt (w W : World) (g og : Nat) (ow : List Pa) (L : Lo) (da ca : Option Addr) (dk ck : Nat) (n : Int) (v : Value) (ps : List Pa) : Prop where
 t : PTl w W g (.slice (some ⟨og, 0, none⟩) ow.length 4) L da ca dk ck n v ps
 row : RowIn penc W (some ⟨og, 0, none⟩) ow
 g2 : w.heap.size + 1 < og
 g3 : og ≠ g
 g4 : og < W.heap.size
 og' : v.ownBlock ≠ some og
section
variable {w W : World} {g og : Nat} {ow : List Pa} {L : Lo} {da ca : Option Addr} {dk ck : Nat} {n x : Int} {v sl : Value} {ps : List Pa}
theorem PTl.drew (h : PTl w W g sl L da ca dk ck n v ps) : PTl w W.drew g sl L da ca dk ck n v ps :=
 ⟨h.k.drew, h.z.drew, h.p.drew, h.pv.blk (fun _ _ => rfl), h.ap, h.b.drew, h.g1⟩
theorem PSt.drew (h : PSt w W g og ow L da ca dk ck n v ps) : PSt w W.drew g og ow L da ca dk ck n v ps :=
 ⟨h.t.drew, h.row.blk (fun _ _ => rfl), h.g2, h.g3, h.g4, h.og'⟩
theorem PTl.sz (h : PTl w W g sl L da ca dk ck n v ps) : w.heap.size + 1 < W.heap.size := h.z.lt
theorem PTl.put (h : PTl w W g sl L da ca dk ck n v ps) (i : Nat) (u : Value) (L' : Lo) {da' ca' : Option Addr} {dk' ck' : Nat} (e : (#[.int .i64 (L).id, .int .i64 (L).ac, .int .i64 (L).st, .int .i64 (L).pp, .int .i64 (L).pi, .int .i64 (L).fee, .int .i64 (L).pen, .int .i64 (L).chg, .int .i64 (L).prov, .int .i64 (L).loss, .int .i64 (L).rcv, .int .i64 ((L).tm).me, .int .i64 ((L).tm).pr, .int .i64 ((L).tm).ppm, .int .i64 ((L).tm).stt, .int .i64 ((L).tm).ev, .int .i64 ((L).tm).ct, .int .i64 ((L).tm).ba, .int .i64 ((L).tm).mo, .int .i64 ((L).tm).pen, .int .i64 ((L).tm).fe, .string ((L).tm).cal, .string ((L).tm).cur, .slice da (L).ds.length dk, .slice ca (L).cs.length ck] : Array Value).setIfInBounds i u = #[.int .i64 (L').id, .int .i64 (L').ac, .int .i64 (L').st, .int .i64 (L').pp, .int .i64 (L').pi, .int .i64 (L').fee, .int .i64 (L').pen, .int .i64 (L').chg, .int .i64 (L').prov, .int .i64 (L').loss, .int .i64 (L').rcv, .int .i64 ((L').tm).me, .int .i64 ((L').tm).pr, .int .i64 ((L').tm).ppm, .int .i64 ((L').tm).stt, .int .i64 ((L').tm).ev, .int .i64 ((L').tm).ct, .int .i64 ((L').tm).ba, .int .i64 ((L').tm).mo, .int .i64 ((L').tm).pen, .int .i64 ((L').tm).fe, .string ((L').tm).cal, .string ((L').tm).cur, .slice da' (L').ds.length dk', .slice ca' (L').cs.length ck']) :
  PTl w (W.setCell ⟨w.heap.size, i, none⟩ u) g sl L' da' ca' dk' ck' n v ps := by
 have h1 := h.g1
 exact ⟨h.k.set_same.conv e, h.z.set_ne (by omega), h.p.set_ne (by omega), h.pv.blk (fun j hj => Below.heap_setCell _ _ _ _ (fun he => h.ap.1 (by rw [hj]; exact congrArg some he))), h.ap, h.b.setCell (Nat.le_refl _) _, h.g1⟩
theorem PSt.put (h : PSt w W g og ow L da ca dk ck n v ps) (i : Nat) (u : Value) (L' : Lo) (e : (#[.int .i64 (L).id, .int .i64 (L).ac, .int .i64 (L).st, .int .i64 (L).pp, .int .i64 (L).pi, .int .i64 (L).fee, .int .i64 (L).pen, .int .i64 (L).chg, .int .i64 (L).prov, .int .i64 (L).loss, .int .i64 (L).rcv, .int .i64 ((L).tm).me, .int .i64 ((L).tm).pr, .int .i64 ((L).tm).ppm, .int .i64 ((L).tm).stt, .int .i64 ((L).tm).ev, .int .i64 ((L).tm).ct, .int .i64 ((L).tm).ba, .int .i64 ((L).tm).mo, .int .i64 ((L).tm).pen, .int .i64 ((L).tm).fe, .string ((L).tm).cal, .string ((L).tm).cur, .slice da (L).ds.length dk, .slice ca (L).cs.length ck] : Array Value).setIfInBounds i u = #[.int .i64 (L').id, .int .i64 (L').ac, .int .i64 (L').st, .int .i64 (L').pp, .int .i64 (L').pi, .int .i64 (L').fee, .int .i64 (L').pen, .int .i64 (L').chg, .int .i64 (L').prov, .int .i64 (L').loss, .int .i64 (L').rcv, .int .i64 ((L').tm).me, .int .i64 ((L').tm).pr, .int .i64 ((L').tm).ppm, .int .i64 ((L').tm).stt, .int .i64 ((L').tm).ev, .int .i64 ((L').tm).ct, .int .i64 ((L').tm).ba, .int .i64 ((L').tm).mo, .int .i64 ((L').tm).pen, .int .i64 ((L').tm).fe, .string ((L').tm).cal, .string ((L').tm).cur, .slice da (L').ds.length dk, .slice ca (L').cs.length ck]) :
  PSt w (W.setCell ⟨w.heap.size, i, none⟩ u) g og ow L' da ca dk ck n v ps := by
 have h2 := h.g2
 exact ⟨h.t.put i u L' e, h.row.blk (fun ad had => by cases had; exact Below.heap_setCell _ _ _ _ (fun he => by simp at he; omega)), h.g2, h.g3, by simpa using h.g4, h.og'⟩
theorem PSt.fee (h : PSt w W g og ow L da ca dk ck n v ps) {L' : Lo} {x : Int} (e : L' = { L with fee := L.fee - x }) : PSt w (W.setCell ⟨w.heap.size, 5, none⟩ (.int .i64 (L.fee - x))) g og ow L' da ca dk ck n v ps := h.put 5 _ _ (by rw [e]; simp)
theorem PSt.fee0 (h : PSt w W g og ow L da ca dk ck n v ps) {L' : Lo} {x : Int} (kd : Int) (h0 : x = 0) (e : L' = { L with fee := L.fee - x }) : PSt w W g og ow L' da ca dk ck (n - x) v (ps ++ pparts [⟨kd, x⟩]) := by
 subst h0
 rw [e, Int.sub_zero, Int.sub_zero, show pparts [⟨kd, 0⟩] = [] from rfl, List.append_nil]
 exact h
theorem PSt.pen (h : PSt w W g og ow L da ca dk ck n v ps) {L' : Lo} {x : Int} (e : L' = { L with pen := L.pen - x }) : PSt w (W.setCell ⟨w.heap.size, 6, none⟩ (.int .i64 (L.pen - x))) g og ow L' da ca dk ck n v ps := h.put 6 _ _ (by rw [e]; simp)
theorem PSt.pen0 (h : PSt w W g og ow L da ca dk ck n v ps) {L' : Lo} {x : Int} (kd : Int) (h0 : x = 0) (e : L' = { L with pen := L.pen - x }) : PSt w W g og ow L' da ca dk ck (n - x) v (ps ++ pparts [⟨kd, x⟩]) := by
 subst h0
 rw [e, Int.sub_zero, Int.sub_zero, show pparts [⟨kd, 0⟩] = [] from rfl, List.append_nil]
 exact h
theorem PSt.pi (h : PSt w W g og ow L da ca dk ck n v ps) {L' : Lo} {x : Int} (e : L' = { L with pi := L.pi + x }) : PSt w (W.setCell ⟨w.heap.size, 4, none⟩ (.int .i64 (L.pi + x))) g og ow L' da ca dk ck n v ps := h.put 4 _ _ (by rw [e]; simp)
theorem PSt.pi0 (h : PSt w W g og ow L da ca dk ck n v ps) {L' : Lo} {x : Int} (kd : Int) (h0 : x = 0) (e : L' = { L with pi := L.pi + x }) : PSt w W g og ow L' da ca dk ck (n - x) v (ps ++ pparts [⟨kd, x⟩]) := by
 subst h0
 rw [e, Int.add_zero, Int.sub_zero, show pparts [⟨kd, 0⟩] = [] from rfl, List.append_nil]
 exact h
theorem PSt.pp (h : PSt w W g og ow L da ca dk ck n v ps) {L' : Lo} {x : Int} (e : L' = { L with pp := L.pp + x }) : PSt w (W.setCell ⟨w.heap.size, 3, none⟩ (.int .i64 (L.pp + x))) g og ow L' da ca dk ck n v ps := h.put 3 _ _ (by rw [e]; simp)
theorem PSt.pp0 (h : PSt w W g og ow L da ca dk ck n v ps) {L' : Lo} {x : Int} (kd : Int) (h0 : x = 0) (e : L' = { L with pp := L.pp + x }) : PSt w W g og ow L' da ca dk ck (n - x) v (ps ++ pparts [⟨kd, x⟩]) := by
 subst h0
 rw [e, Int.add_zero, Int.sub_zero, show pparts [⟨kd, 0⟩] = [] from rfl, List.append_nil]
 exact h
theorem PTl.st (h : PTl w W g sl L da ca dk ck n v ps) (x : Int) : PTl w (W.setCell ⟨w.heap.size, 2, none⟩ (.int .i64 x)) g sl { L with st := x } da ca dk ck n v ps := h.put 2 _ { L with st := x } (by simp)
theorem PTl.later {W' : World} (h : PTl w W g sl L da ca dk ck n v ps) (hb : Below W.heap.size W W') : PTl w W' g sl L da ca dk ck n v ps :=
 ⟨h.k.later hb, h.z.later hb, h.p.later hb, h.pv.later hb, h.ap, bl2 hb h.b, h.g1⟩
end
section
variable {w W : World} {g : Nat} {L : Lo} {da ca : Option Addr} {dk ck : Nat} {n : Int} {v sl : Value} {ps : List Pa}
theorem PTl.fee0 (h : PTl w W g sl L da ca dk ck n v ps) {L' : Lo} {x : Int} (kd : Int) (h0 : x = 0) (e : L' = { L with fee := L.fee - x }) : PTl w W g sl L' da ca dk ck (n - x) v (ps ++ pparts [⟨kd, x⟩]) := by
 subst h0
 rw [e, Int.sub_zero, Int.sub_zero, show pparts [⟨kd, 0⟩] = [] from rfl, List.append_nil]
 exact h
theorem PTl.pen0 (h : PTl w W g sl L da ca dk ck n v ps) {L' : Lo} {x : Int} (kd : Int) (h0 : x = 0) (e : L' = { L with pen := L.pen - x }) : PTl w W g sl L' da ca dk ck (n - x) v (ps ++ pparts [⟨kd, x⟩]) := by
 subst h0
 rw [e, Int.sub_zero, Int.sub_zero, show pparts [⟨kd, 0⟩] = [] from rfl, List.append_nil]
 exact h
theorem PTl.pi0 (h : PTl w W g sl L da ca dk ck n v ps) {L' : Lo} {x : Int} (kd : Int) (h0 : x = 0) (e : L' = { L with pi := L.pi + x }) : PTl w W g sl L' da ca dk ck (n - x) v (ps ++ pparts [⟨kd, x⟩]) := by
 subst h0
 rw [e, Int.add_zero, Int.sub_zero, show pparts [⟨kd, 0⟩] = [] from rfl, List.append_nil]
 exact h
theorem PTl.pp0 (h : PTl w W g sl L da ca dk ck n v ps) {L' : Lo} {x : Int} (kd : Int) (h0 : x = 0) (e : L' = { L with pp := L.pp + x }) : PTl w W g sl L' da ca dk ck (n - x) v (ps ++ pparts [⟨kd, x⟩]) := by
 subst h0
 rw [e, Int.add_zero, Int.sub_zero, show pparts [⟨kd, 0⟩] = [] from rfl, List.append_nil]
 exact h
end
theorem take_step {w W : World} {g og : Nat} {ow : List Pa} {L : Lo} {da ca : Option Addr} {dk ck : Nat} {n : Int} {v : Value} {ps : List Pa} (h : PSt w W g og ow L da ca dk ck n v ps) (kd t : Int) (ht : takeN ow kd n = t)
  (hl : ps.length ≤ 50) (hn : ow.length ≤ 4) (n0 : 0 ≤ n) (n1 : n ≤ 1000000000000) (ham : ∀ p ∈ ow, 0 < p.am ∧ p.am ≤ 1000000000000000) :
  Calls Tryz.prog 64 #[.pointer (some ⟨g, 0, none⟩), .int .i64 kd] W fun e w' => e = .returned (.int .i64 t) ∧ ∃ v', PSt w w' g og ow L da ca dk ck (n - t) v' (ps ++ pparts [⟨kd, t⟩]) := by
 subst ht
 have h1 := h.t.g1; have h2 := h.g2; have h4 := h.g4; have hz := h.t.sz
 refine (take_any g w.heap.size kd n _ 4 ow ps v W h.t.p h.row h.t.pv (by omega) h.t.ap.2.2 (fun ad had => by cases had; exact ⟨h.g3, h.og'⟩) hl hn n0 n1 ham).mono ?_
 rintro e w' ⟨rfl, v', hpv, hp, ho, hf⟩
 have hs := hf.size
 have own : ∀ j, j < W.heap.size → v.ownBlock ≠ some j → v'.ownBlock ≠ some j := fun j hj hne => by
  rcases ho with ho | ⟨i, ho, hi⟩
  ·rw [ho]; exact hne
  ·rw [ho]; intro he; have := Option.some.inj he; omega
 have hg := h.t.p.lt
 exact ⟨rfl, v', ⟨(hf.block _ (by omega) (by omega) h.t.ap.1).trans h.t.k, (hf.block _ (by omega) (by omega) h.t.ap.2.1).trans h.t.z, hp, hpv, ⟨own _ (by omega) h.t.ap.1, own _ (by omega) h.t.ap.2.1, own _ hg h.t.ap.2.2⟩, hf.below h.t.b h.t.b.size (by omega) (fun j hj => (h.t.pv.1.lt j hj).1), h1⟩,
  h.row.blk (fun ad had => by cases had; exact hf.block _ h4 h.g3 h.og'), h2, h.g3, by omega, own _ h4 h.og'⟩
theorem cloned_row (a : Option Addr) (cap : Nat) (ds : List Du) (w : World) (h : DuesIn w a ds) (hl : ds.length ≤ 100000) :
  Calls Tryz.prog 17 #[.slice a ds.length cap] w fun e w' => ∃ a' c', e = .returned (.slice a' ds.length c') ∧ RowIn denc w' a' ds ∧ (∀ ad, a' = some ad → w.heap.size ≤ ad.block) ∧ Below w.heap.size w w' :=
 (cloned_any a cap ds w h hl).mono fun e w' ⟨hb, h⟩ => by
  rcases h with ⟨rfl, rfl, rfl⟩ | ⟨g, c, rfl, ho⟩
  ·exact ⟨none, 0, rfl, fun h => absurd h (Nat.not_lt_zero _), (fun ad had => by cases had), hb⟩
  ·exact ⟨_, _, rfl, ho.row, (fun ad had => by cases had; exact ho.1), hb⟩
theorem clonec_row (a : Option Addr) (cap : Nat) (cs : List Ch) (w : World) (h : RowIn cenc w a cs) (hl : cs.length ≤ 100000) :
  Calls Tryz.prog 18 #[.slice a cs.length cap] w fun e w' => ∃ a' c', e = .returned (.slice a' cs.length c') ∧ RowIn cenc w' a' cs ∧ (∀ ad, a' = some ad → w.heap.size ≤ ad.block) ∧ Below w.heap.size w w' :=
 (clonec_any a cap cs w h hl).mono fun e w' ⟨hb, h⟩ => by
  rcases h with ⟨rfl, rfl, rfl⟩ | ⟨g, c, rfl, ho⟩
  ·exact ⟨none, 0, rfl, fun h => absurd h (Nat.not_lt_zero _), (fun ad had => by cases had), hb⟩
  ·exact ⟨_, _, rfl, ho.row, (fun ad had => by cases had; exact ho.1), hb⟩
theorem done_same (L : Lo) : L.done.ds = L.ds ∧ L.done.cs = L.cs := by unfold Lo.done; split <;> exact ⟨rfl, rfl⟩
theorem PTl.conv {w W : World} {g : Nat} {sl : Value} {L : Lo} {da ca : Option Addr} {dk ck : Nat} {n : Int} {v : Value} {ps ps' : List Pa} (h : PTl w W g sl L da ca dk ck n v ps) (e : ps = ps') : PTl w W g sl L da ca dk ck n v ps' := e ▸ h
theorem PTl.app {w W W' : World} {g : Nat} {sl : Value} {L : Lo} {da ca : Option Addr} {dk ck : Nat} {n : Int} {v : Value} {ps ps' : List Pa} {g' m c' : Nat} (h : PTl w W g sl L da ca dk ck n v ps)
  (hpv : PV W' w.heap.size (.slice (some ⟨g', 0, none⟩) m c') ps') (hgr : W.grownBy W' v.ownBlock) (hat : v.ownBlock = some g' ∨ g' = W.heap.size) :
  PTl w (W'.setCell ⟨g, 2, none⟩ (.slice (some ⟨g', 0, none⟩) m c')) g sl L da ca dk ck n (.slice (some ⟨g', 0, none⟩) m c') ps' := by
 have h1 := h.g1; have hz := h.sz; have hg := h.p.lt; have hs := hgr.size
 have own : ∀ j, j < W.heap.size → v.ownBlock ≠ some j → g' ≠ j := fun j hj hne he => by
  rcases hat with hat | hat
  ·exact hne (by rw [hat, he])
  ·omega
 have o1 := own _ (by omega) h.ap.1
 have o2 := own _ (by omega) h.ap.2.1
 have o3 := own _ hg h.ap.2.2
 have k1 : Bk.Blk W' w.heap.size _ _ := (hgr.block _ (by omega) (Ne.symm h.ap.1)).trans h.k
 have k2 : Bk.Blk W' (w.heap.size + 1) _ _ := (hgr.block _ (by omega) (Ne.symm h.ap.2.1)).trans h.z
 have k3 : Bk.Blk W' g _ _ := (hgr.block _ hg (Ne.symm h.ap.2.2)).trans h.p
 refine ⟨k1.set_ne (by omega), k2.set_ne (by omega), k3.set_same, hpv.blk (fun j hj => Below.heap_setCell _ _ _ _ (fun he => o3 ((Option.some.inj hj).trans he))), ?_, (h.b.grown hgr h.b.size (fun j hj => (h.pv.1.lt j hj).1)).setCell (by simp; omega) _, h1⟩
 refine ⟨fun he => o1 (Option.some.inj he), fun he => o2 (Option.some.inj he), fun he => o3 (Option.some.inj he)⟩
def CLR (w : World) (g : Nat) (sl : Value) (L : Lo) (n : Int) (v : Value) (ps : List Pa) (wx : World) : Prop := ∃ da' ca' dk' ck', PTl w wx g sl L da' ca' dk' ck' n v ps ∧ RowIn denc wx da' L.ds ∧ RowIn cenc wx ca' L.cs ∧ (∀ ad, da' = some ad → w.heap.size + 1 < ad.block) ∧ (∀ ad, ca' = some ad → w.heap.size + 1 < ad.block)
theorem clone_fin {w W : World} {g : Nat} {sl : Value} {L : Lo} {da ca a1 a2 : Option Addr} {dk ck c1 c2 : Nat} {n : Int} {v : Value} {ps : List Pa} {n1 n2 : Nat} (h : PTl w W g sl L da ca dk ck n v ps)
  (h1 : RowIn denc W a1 L.ds) (h2 : RowIn cenc W a2 L.cs) (f1 : ∀ ad, a1 = some ad → n1 ≤ ad.block) (f2 : ∀ ad, a2 = some ad → n2 ≤ ad.block) (k1 : w.heap.size + 1 < n1) (k2 : w.heap.size + 1 < n2) :
  CLR w g sl L n v ps ((W.setCell ⟨w.heap.size, 23, none⟩ (.slice a1 L.ds.length c1)).setCell ⟨w.heap.size, 24, none⟩ (.slice a2 L.cs.length c2)) := by
 refine ⟨a1, a2, c1, c2, (h.put 23 (.slice a1 L.ds.length c1) L (da' := a1) (ca' := ca) (dk' := c1) (ck' := ck) (by simp)).put 24 _ L (by simp), ?_, ?_, fun ad had => by have := f1 ad had; omega, fun ad had => by have := f2 ad had; omega⟩
 ·exact h1.blk (fun ad had => by
   have := f1 ad had
   exact (Below.heap_setCell _ _ _ _ (show ad.block ≠ _ by simp; omega)).trans (Below.heap_setCell _ _ _ _ (show ad.block ≠ _ by simp; omega)))
 ·exact h2.blk (fun ad had => by
   have := f2 ad had
   exact (Below.heap_setCell _ _ _ _ (show ad.block ≠ _ by simp; omega)).trans (Below.heap_setCell _ _ _ _ (show ad.block ≠ _ by simp; omega)))
end Go.Proofs.YtlolflephnbbcaaGreatDoor.Ln
