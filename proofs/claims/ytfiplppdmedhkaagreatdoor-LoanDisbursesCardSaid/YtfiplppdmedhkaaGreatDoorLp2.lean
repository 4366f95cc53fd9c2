/-
  The program's payment: first and take.
-/
import Derived.Test.YtfiplppdmedhkaaGreatDoorLr9
import Derived.Deep.AppendLies
import Derived.Deep.RegionLaw
namespace Go.Proofs.YtfiplppdmedhkaaGreatDoor.Ln
open Go.RowKit
open Go.Proofs.YtfiplppdmedhkaaGreatDoor
set_option maxRecDepth 100000

set_option maxHeartbeats 2000000 in
theorem tpred_any (kd : Int) (g : Nat) (d : Pa) (w : World) (hb : Bk.Blk w g #[.int .i64 kd] 3) :
    Calls Tryz.prog 136 #[.agg #[.int .i64 d.kd, .int .i64 d.am], .pointer (some ⟨g, 0, none⟩)] w fun e w' => e = .returned (.bool (d.kd == kd)) ∧ Below w.heap.size w w' := by
  have b0 := Below.refl w.heap.size w
  have c0 := hb.alloc (o := .cells #[.int .i64 d.kd, .int .i64 d.am] 68)
  have c1 := c0.c0
  go_enter Tryz.func136, Tryz.ntmps136
  go_wp2_with fail
  go_ret
  exact ⟨rfl, (by repeat (first | assumption | exact Below.refl _ _ | refine Below.setCell ?_ (by first | exact Nat.le_refl _ | (simp; done) | (simp; omega) | omega) _ | refine Below.alloc ?_ (by first | exact Nat.le_refl _ | (simp; done) | (simp; omega) | omega) _ | refine Below.drew ?_ | exact Nat.le_refl _))⟩
/-- The kind of the first part that is owed. -/
def firstK (ow : List Pa) : Int := match ow with | [] => 5 | x :: _ => x.kd
set_option maxHeartbeats 2000000 in
theorem first_any (g : Nat) (n : Int) (a : Option Addr) (c : Nat) (ow : List Pa) (v : Value) (w : World) (hk : Bk.Blk w g #[.int .i64 n, .slice a ow.length c, v] 112) (hrow : RowIn penc w a ow) :
    Calls Tryz.prog 93 #[.pointer (some ⟨g, 0, none⟩)] w fun e w' => e = .returned (.int .i64 (firstK ow)) ∧ w = w' := by
  have k1 := hk.c1
  cases ow with
  | nil =>
    go_enter Tryz.func93, Tryz.ntmps93
    go_wp2_with fail
    go_ret
    exact ⟨rfl, rfl⟩
  | cons x xs =>
    obtain ⟨b, off, rfl, hc⟩ := hrow.parts (by simp)
    obtain ⟨c0, c1⟩ := hc 0 (by simp)
    simp at c0 c1 k1
    go_enter Tryz.func93, Tryz.ntmps93
    go_wp2_with fail
    go_ret
    exact ⟨rfl, rfl⟩
/-- One part is appended, at a step of a region that draws its order. -/
theorem step_part {ops : Array Oper} {o : Oper} {a : Act} {K : Act → World → Prop} {Q : Exit → Act → World → Prop} {E : Prop} {W : World} {B : Nat} {v : Value} {ps : List Pa} (x : Pa) (hgd : o.guard = none) (s y : Operand)
    (ho : o.op = .call { callee := .builtin .append, args := #[s, y], argTypes := #[46, 46] }) (hs : a.eval s = v) (hr : PV W B v ps) (gx : Nat)
    (hy : a.eval y = .slice (some ⟨gx, 0, none⟩) 1 1) (hb : Bk.Blk W gx #[.int .i64 x.kd, .int .i64 x.am] 68) (hl : ps.length ≤ 100) (hB : B ≤ W.heap.size) (H : Nat) (hH : W.heap.size = H)
    (h : ∀ g c w', PV w' B (.slice (some ⟨g, 0, none⟩) (ps.length + 1) c) (ps ++ [x]) → W.grownBy w' v.ownBlock → (v.ownBlock = some g ∨ g = H) → g < w'.heap.size → K (a.put o.dst (.slice (some ⟨g, 0, none⟩) (ps.length + 1) c)) w') :
    if Region.wanted o (yielded ops a.tmps) = true then Oper.wp Tryz.prog o a W K Q else E := by
  obtain ⟨i, hi, hzz⟩ := Option.map_eq_some_iff.1 part_info
  simp only [Prod.mk.injEq] at hzz
  obtain ⟨hz, hsz, hby⟩ := hzz
  refine step_append_lies _ hgd s y 46 ho B 68 i (.agg #[.int .i64 0, .int .i64 0]) 2 16 Tryz.underlying46 hi hz hsz hby rfl (by decide) v ps.length (flat penc ps) hs hr.1 ⟨gx, 0, none⟩ 1 1 (penc x) hy rfl ?_ (penc_one x) (by omega) (by unfold maxLen; omega) (by omega) hB H hH ?_
  · intro j u hj
    rw [show (⟨gx, 0, none⟩ : Addr).add j = ⟨gx, 0 + j, none⟩ from Go.WideShapes.add_plain .., Nat.zero_add, hb.cell]
    simpa [penc] using hj
  · intro g c w' hown hgr hat hlt
    refine h g c w' ?_ hgr hat hlt
    have e : flat penc ps ++ penc x = flat penc (ps ++ [x]) := by simp [flat]
    rw [e] at hown
    refine ⟨?_, some ⟨g, 0, none⟩, c, by simp⟩
    simpa using hown
/-- Only block g, the block o and new ones differ. -/
structure Fx (g : Nat) (o : Option Nat) (W W' : World) : Prop where
  os : W'.os = W.os
  tape : W'.tape = W.tape
  output : W'.output = W.output
  size : W.heap.size ≤ W'.heap.size
  block : ∀ j, j < W.heap.size → j ≠ g → o ≠ some j → W'.heap[j]? = W.heap[j]?
theorem Fx.below {g B : Nat} {o : Option Nat} {w W W' : World} (h : Fx g o W W') (hb : Below B w W) (hw : B ≤ W.heap.size) (hg : B ≤ g) (ho : ∀ j, o = some j → B ≤ j) : Below B w W' :=
  ⟨h.os.trans hb.os, h.tape.trans hb.tape, h.output.trans hb.output, Nat.le_trans hb.size h.size, fun k hk => (h.block k (by omega) (by omega) (fun he => by have := ho k he; omega)).trans (hb.block k hk)⟩
theorem Fx.of_below {g : Nat} {o : Option Nat} {W W' : World} (h : Below W.heap.size W W') : Fx g o W W' := ⟨h.os, h.tape, h.output, h.size, fun j hj _ _ => h.block j hj⟩
/-- What take uses of a payment of n for the part of a kind. -/
def takeN (ow : List Pa) (kd n : Int) : Int := match ow.find? (fun p => p.kd == kd) with | none => 0 | some x => min n x.am
theorem find_idx {p : Pa → Bool} : ∀ {l : List Pa} {r : Int}, Idx p l r → (r = -1 ∧ l.find? p = none) ∨ ∃ k : Nat, k < l.length ∧ r = k ∧ l.find? p = some l[k]! := by
  intro l r h
  rcases h with ⟨rfl, ha⟩ | ⟨k, hk, rfl, ht, ha⟩
  · refine .inl ⟨rfl, ?_⟩
    rw [List.find?_eq_none]
    intro x hx
    obtain ⟨j, hj, rfl⟩ := List.mem_iff_getElem.1 hx
    have := ha j hj
    rw [getElem!_pos l j hj] at this
    simp [this]
  · refine .inr ⟨k, hk, rfl, ?_⟩
    rw [getElem!_pos l k hk] at ht ⊢
    rw [List.find?_eq_some_iff_getElem]
    refine ⟨ht, k, hk, rfl, fun j hj => ?_⟩
    have := ha j hj
    rw [getElem!_pos l j (by omega)] at this
    simp [this]
set_option maxHeartbeats 8000000 in
theorem take_any (g B : Nat) (kd n : Int) (a : Option Addr) (c : Nat) (ow ps : List Pa) (v : Value) (w : World) (hk : Bk.Blk w g #[.int .i64 n, .slice a ow.length c, v] 112) (hrow : RowIn penc w a ow) (hpv : PV w B v ps)
    (hB : B ≤ g) (hne : v.ownBlock ≠ some g) (hra : ∀ ad, a = some ad → ad.block ≠ g ∧ v.ownBlock ≠ some ad.block) (hl : ps.length ≤ 50) (hn : ow.length ≤ 4) (n0 : 0 ≤ n) (n1 : n ≤ 1000000000000) (ham : ∀ p ∈ ow, 0 < p.am ∧ p.am ≤ 1000000000000000) :
    Calls Tryz.prog 94 #[.pointer (some ⟨g, 0, none⟩), .int .i64 kd] w fun e w' => e = .returned (.int .i64 (takeN ow kd n)) ∧ ∃ v', PV w' B v' (ps ++ pparts [⟨kd, takeN ow kd n⟩]) ∧ Bk.Blk w' g #[.int .i64 (n - takeN ow kd n), .slice a ow.length c, v'] 112 ∧ (v'.ownBlock = v.ownBlock ∨ ∃ j, v'.ownBlock = some j ∧ w.heap.size ≤ j) ∧ Fx g v.ownBlock w w' := by
  have HH := Lib.hid (fun (W : World) (hW : Below w.heap.size w W) (hbx : Bk.Blk W w.heap.size #[.int .i64 kd] 3) => ixq_any 136 #[.pointer (some ⟨w.heap.size, 0, none⟩)] (fun d => d.kd == kd) a c ow W (hrow.later hW) (by omega) (fun _ _ => rfl) (fun d W' hW' => tpred_any kd w.heap.size d W' (hbx.later hW')))
  have hbx := Bk.Blk.nw10 (W := w) (cs := #[.int .i64 kd]) (t := 3)
  have b1 : Below w.heap.size w (w.alloc (.cells #[.int .i64 kd] 3)) := (Below.refl _ _).alloc (Nat.le_refl _) _
  have hk1 := hk.later b1
  have q1 := hk1.c1
  go_enter Tryz.func94, Tryz.ntmps94
  go_wp2_with fail
  refine (HH.out _ b1 hbx).mono ?_
  rintro e w2 ⟨r, rfl, hidx, hb2⟩
  have HF := Lib.hid (find_idx hidx)
  have hx2 := hbx.later hb2
  have b2 : Below w.heap.size w w2 := bl2 hb2 b1
  have hk2 := hk.later b2
  have hpv2 := hpv.later b2
  have hrow2 := hrow.later b2
  have s2 := b2.size
  have HPV := Lib.hid hpv2
  have l0 := hk2.c0
  have l1 := hk2.c1
  have l2 := hk2.c2
  clear hidx q1 hk1 hbx b1 hb2 HH hpv hpv2 hrow
  have HZ : Hid (takeN ow kd n = 0 → PV w2 B v (ps ++ pparts [⟨kd, takeN ow kd n⟩]) ∧ Bk.Blk w2 g #[.int .i64 (n - takeN ow kd n), .slice a ow.length c, v] 112) := Lib.hid (fun h0 => by
    rw [h0, show pparts [⟨kd, 0⟩] = [] from rfl, List.append_nil, Int.sub_zero]
    exact ⟨HPV.out, hk2⟩)
  rcases HF.out with ⟨rfl, hnone⟩ | ⟨k, hkl, rfl, hsome⟩
  · have ht : takeN ow kd n = 0 := by unfold takeN; rw [hnone]
    have HT := Lib.hid ht
    clear hnone ht
    go_wp2_with fail
    go_ret
    exact ⟨by rw [HT.out]; rfl, v, (HZ.out HT.out).1, (HZ.out HT.out).2, .inl rfl, .of_below b2⟩
  · have ht : takeN ow kd n = min n ow[k]!.am := by unfold takeN; rw [hsome]
    have hpos := ham ow[k]! (by rw [getElem!_pos ow k hkl]; exact List.getElem_mem hkl)
    by_cases h0 : n = 0
    · have HT := Lib.hid (show takeN ow kd n = 0 by rw [ht]; omega)
      have g0 : (n == 0) = true := by simp [h0]
      clear hsome ht h0
      go_wp2_with fail
      go_ret
      exact ⟨by rw [HT.out]; rfl, v, (HZ.out HT.out).1, (HZ.out HT.out).2, .inl rfl, .of_below b2⟩
    · have g0 : (n == 0) = false := by simp [h0]
      obtain ⟨am, hamd⟩ : ∃ am, am = min n ow[k]!.am := ⟨_, rfl⟩
      rw [← hamd] at ht
      have HIF := Lib.hid (show (if ow[k]!.am < n then ow[k]!.am else n) = am by rw [hamd]; split <;> omega)
      have HT := Lib.hid ht
      have HA := Lib.hid (show 0 < am ∧ am ≤ n by omega)
      obtain ⟨b, off, rfl, hc⟩ := hrow2.parts (by omega)
      obtain ⟨c0, c1⟩ := hc k hkl
      have hga := hra _ rfl
      clear hsome ht h0 hamd hpos hc hrow2 HZ HF ham
      generalize ow[k]! = x at *
      go_wp2_with fail
      go_region
      rw [HIF.out]
      have hg2 := hk2.lt
      have hk3 : Bk.Blk w2.drew g _ _ := hk2.drew
      have hx3 : Bk.Blk w2.drew w.heap.size _ _ := hx2.drew
      have hpv3 : PV w2.drew B v ps := HPV.out.blk (fun _ _ => rfl)
      have b3 : Below w.heap.size w w2.drew := b2.drew
      clear hk2 hx2 b2 l0 l1 l2 c0 c1 HIF HPV
      have z3 : w.heap.size ≤ w2.drew.heap.size := b3.size
      generalize w2.drew = w3 at *
      have l0 := hk3.c0
      have m0 := hk3.f0
      have hg3 := hk3.lt
      have hwm : IntKind.i64.wrap (n - am) = n - am := by rw [IntKind.wrap_i64]; have := HA.out; omega
      go_upto_region 6 with fail
      have hk4 : Bk.Blk (w3.setCell ⟨g, 0, none⟩ (.int .i64 (n - am))) g #[.int .i64 (n - am), .slice (some ⟨b, off, none⟩) ow.length c, v] 112 := hk3.set_same
      have hx4 : Bk.Blk (w3.setCell ⟨g, 0, none⟩ (.int .i64 (n - am))) w.heap.size #[.int .i64 kd] 3 := hx3.set_ne (by have := hk.lt; omega)
      have hpv4 : PV (w3.setCell ⟨g, 0, none⟩ (.int .i64 (n - am))) B v ps := hpv3.blk (fun j hj => Below.heap_setCell _ _ _ _ (fun he => hne (by rw [hj]; exact congrArg some he)))
      have hfx : Fx g v.ownBlock w (w3.setCell ⟨g, 0, none⟩ (.int .i64 (n - am))) := ⟨b3.os, b3.tape, b3.output, by simpa using b3.size, fun j hj h1 _ => (Below.heap_setCell _ _ _ _ h1).trans (b3.block j hj)⟩
      have z4 : w.heap.size ≤ (w3.setCell ⟨g, 0, none⟩ (.int .i64 (n - am))).heap.size := hfx.size
      clear hk3 hx3 hpv3 b3 l0 m0 hg3
      generalize w3.setCell ⟨g, 0, none⟩ (.int .i64 (n - am)) = w4 at *
      have l2 := hk4.c2
      have lx := hx4.c0
      have l2' := (hk4.alloc (o := .cells #[.int .i64 kd, .int .i64 am] 68)).c2
      have lx' := (hx4.alloc (o := .cells #[.int .i64 kd, .int .i64 am] 68)).c0
      have hg4 := hk4.lt
      have hal : Below w4.heap.size w4 (w4.alloc (.cells #[.int .i64 kd, .int .i64 am] 68)).drew := ((Below.refl _ _).alloc (Nat.le_refl _) _).drew
      have HPV4 := Lib.hid (hpv4.later hal)
      have HNW := Lib.hid (show Bk.Blk (w4.alloc (.cells #[.int .i64 kd, .int .i64 am] 68)).drew w4.heap.size #[.int .i64 kd, .int .i64 am] 68 from Bk.Blk.nw10)
      have HSZ := Lib.hid (show B ≤ (w4.alloc (.cells #[.int .i64 kd, .int .i64 am] 68)).drew.heap.size ∧ w4.heap.size < (w4.alloc (.cells #[.int .i64 kd, .int .i64 am] 68)).drew.heap.size from ⟨by have := hal.size; omega, by simp⟩)
      have HK4 := Lib.hid (hk4.later hal)
      have HAL := Lib.hid hal
      have HFX := Lib.hid hfx
      clear hpv4 hal hfx
      go_region_law (refine step_part ⟨kd, am⟩ rfl (.tmp 47) (.tmp 51) rfl rfl HPV4.out w4.heap.size rfl HNW.out (by omega) HSZ.out.1 _ rfl ?_; intro g' c' w' hpv' hgr hat hlt; replace hgr : World.grownBy (w4.alloc (.cells #[.int .i64 kd, .int .i64 am] 68)).drew w' v.ownBlock := hgr; replace hat : v.ownBlock = some g' ∨ g' = (w4.alloc (.cells #[.int .i64 kd, .int .i64 am] 68)).drew.heap.size := hat; have hk' : Bk.Blk w' g #[.int .i64 (n - am), .slice (some ⟨b, off, none⟩) ow.length c, v] 112 := (hgr.block _ (by have := HSZ.out; omega) (Ne.symm hne)).trans HK4.out; have f2 := hk'.f2; have e2 := hk'.c2)
      all_goals
        have hgg : g ≠ g' := fun he => by
          rcases hat with hat | hat
          · exact hne (by rw [hat, he])
          · have := HSZ.out.2; omega
        have hfx' : Fx g v.ownBlock w w' := ⟨hgr.os.trans HFX.out.os, hgr.tape.trans HFX.out.tape, hgr.output.trans HFX.out.output, Nat.le_trans (by have := HSZ.out; omega) hgr.size, fun j hj h1 h2 => (hgr.block j (by have := HSZ.out; omega) (Ne.symm h2)).trans ((HAL.out.block j (by omega)).trans (HFX.out.block j hj h1 h2))⟩
        have HF := Lib.hid (show Fx g v.ownBlock w (w'.setCell ⟨g, 2, none⟩ (.slice (some ⟨g', 0, none⟩) (ps.length + 1) c')) from ⟨hfx'.os, hfx'.tape, hfx'.output, by simpa using hfx'.size, fun j hj h1 h2 => (Below.heap_setCell _ _ _ _ h1).trans (hfx'.block j hj h1 h2)⟩)
        have HK := Lib.hid (show Bk.Blk (w'.setCell ⟨g, 2, none⟩ (.slice (some ⟨g', 0, none⟩) (ps.length + 1) c')) g #[.int .i64 (n - am), .slice (some ⟨b, off, none⟩) ow.length c, .slice (some ⟨g', 0, none⟩) (ps.length + 1) c'] 112 from hk'.set_same)
        have HP := Lib.hid (show PV (w'.setCell ⟨g, 2, none⟩ (.slice (some ⟨g', 0, none⟩) (ps.length + 1) c')) B (.slice (some ⟨g', 0, none⟩) (ps.length + 1) c') (ps ++ [⟨kd, am⟩]) from hpv'.blk (fun j hj => Below.heap_setCell _ _ _ _ (fun he => hgg ((Option.some.inj hj).trans he).symm)))
        have HO := Lib.hid (show g' = g' ∧ (v.ownBlock = some g' ∨ w.heap.size ≤ g') from ⟨rfl, hat.imp id (fun h => by have := HSZ.out.2; omega)⟩)
        clear hpv' hgr hat hk' f2 e2 hfx' hgg
        go_wp2_with fail
        go_ret
        refine ⟨by rw [HT.out]; rfl, _, ?_, by rw [HT.out]; exact HK.out, ?_, HF.out⟩
        · rw [HT.out, show pparts [⟨kd, am⟩] = [⟨kd, am⟩] by have := HA.out; simp [pparts]; omega]
          exact HP.out
        · exact HO.out.2.imp (fun h => h.symm) (fun h => ⟨g', rfl, h⟩)
end Go.Proofs.YtfiplppdmedhkaaGreatDoor.Ln
