/-
  Parts of the proof: Y7, Y8.
-/
import Derived.Test.YtjhpiclnpmdjnaaGreatDoorQ31
import Derived.Test.YtjhpiclnpmdjnaaGreatDoorQ25
import Derived.Deep.CutRange
namespace Go.Proofs.YtjhpiclnpmdjnaaGreatDoor.Bm
open Go Go.RowKit
open Go.Proofs.YtjhpiclnpmdjnaaGreatDoor
open Go.Proofs.YtjhpiclnpmdjnaaGreatDoor.Kl (byt byt_get)
open Go.Proofs.YtjhpiclnpmdjnaaGreatDoor.Ln (SB tk ts z0 z1 z3 z4 z5 take_at call_at flat flat_len flat_get flat_mem RowIn OwnR Idx bl2 results2_cell Blk_setRow_same Blk_setRow_ne Below_setRow)
set_option linter.unusedSimpArgs false
set_option linter.unusedVariables false
set_option maxRecDepth 100000
def CtR (w : World) (e : Xp) (m : Int) (g : Nat) (s5 s6 : Value) (W : World) : Prop := ∃ (k : Nat) (n : Int), k + g = e.l.length ∧ s6 = .int .i64 k ∧ s5 = .int .i64 n ∧ CntR e m k n ∧ Bk.Blk W w.heap.size #[.int .i64 (e).op, .int .i64 (e).n, .string (e).s, .slice (e).a (e).l.length (e).k] 139 ∧ Below w.heap.size w W
def IsC (e : Xp) (m : Int) (r : Ending) : Prop := ∃ n : Int, r = .returned (.int .i64 n) ∧ CntP e m n
set_option maxHeartbeats 16000000 in
theorem count_any (e : Xp) : ∀ (m : Int), 0 ≤ m → m ≤ 1000000 → ∀ w : World, XpIn w e → Calls Tryz.prog 207 #[.agg #[.int .i64 (e).op, .int .i64 (e).n, .string (e).s, .slice (e).a (e).l.length (e).k], .int .i64 m] w fun r w' => IsC e m r ∧ Below w.heap.size w w' := by
  induction e using Xp.ind with
  | h e ih =>
  intro m m0 m1
  intro w h
  have hln := h.ln
  have hml : e.l.length ≤ 9223372036854775807 := by unfold maxLen at hln; omega
  clear hln
  have HIH := Lib.hid (fun (k : Nat) (hk : k < e.l.length) (m' : Int) (h0 : 0 ≤ m') (h1 : m' ≤ 1000000) (W : World) (hW : Below w.heap.size w W) => ih e.l[k]! (by rw [getElem!_pos e.l k hk]; exact List.getElem_mem hk) m' h0 h1 W ((h.at hk).later hW))
  have HR := Lib.hid h.r
  clear h ih
  have cw : Below w.heap.size w (w.alloc (.cells #[.int .i64 (e).op, .int .i64 (e).n, .string (e).s, .slice (e).a (e).l.length (e).k] 139)) := Bk.be
  have ke : Bk.Blk (w.alloc (.cells #[.int .i64 (e).op, .int .i64 (e).n, .string (e).s, .slice (e).a (e).l.length (e).k] 139)) w.heap.size _ 139 := Bk.Blk.nw10
  go_enter Tryz.func207, Tryz.ntmps207
  go_upto_region 1 with fail
  generalize (w.alloc (.cells _ 139)) = w1 at *
  go_wp2_with fail
  go_loopg [5, 6] e.l.length (CtR w e m)
  case atStart => exact ⟨0, 1, by omega, rfl, rfl, CntR.nil e m0, ke, cw⟩
  case round =>
    clear ke cw
    obtain ⟨k, n, hk, rfl, rfl, hcr, ke, hbr⟩ := hrel
    have HCR := Lib.hid hcr
    have hn1 := hcr.1
    have hn2 := hcr.2.1
    clear hcr
    have e3 := ke.c3
    by_cases hlt : k < e.l.length
    · by_cases hnm : n ≤ m
      · have hw0 : IntKind.i64.wrap (m - n) = m - n := by rw [IntKind.wrap_i64]; omega
        obtain ⟨b, off, ha, hc⟩ := rowat xpenc_len HR.out (by omega)
        have hm := range_later hbr (hc k hlt)
        clear hc
        have HC := Lib.hid (HIH.out k hlt)
        have HST := Lib.hid (fun (c : Int) (hc : CntP e.l[k]! (m - n) c) => HCR.out.step hlt hnm hc)
        obtain ⟨x, hxx⟩ : ∃ x, x = e.l[k]! := ⟨_, rfl⟩
        rw [← hxx] at hm HC HST
        clear hxx
        rw [ha] at e3
        clear ha
        have HCC := Lib.hid (fun W hW => HC.out (m - n) (by omega) (by omega) W hW)
        clear HC
        go_wp2_with ((refine wpList_load_mid rfl 139 _ rfl _ (off + k * 4) (by first | rfl | simp) ([.int .i64 (x).op, .int .i64 (x).n, .string (x).s, .slice (x).a (x).l.length (x).k]) _ (hm) Tryz.underlying139 rfl (by kernel_rfl) ?_))
        refine (HCC.out _ hbr).mono ?_
        rintro r w3 ⟨⟨c, rfl, hcp⟩, hb⟩
        have c3 := bl2 hb hbr
        replace ke := ke.later hb
        have hc1 := hcp.1
        have hc2 := hcp.2.1
        have HN := Lib.hid (HST.out c hcp)
        have hw2 : IntKind.i64.wrap (n + c) = n + c := by rw [IntKind.wrap_i64]; omega
        clear hb hcp e3
        go_wp2_with fail
        go_roundg (gk - 1)
        case measure => omega
        case rel => exact ⟨k + 1, n + c, by omega, by go_num, by first | rfl | exact congrArg _ hw2, HN.out, ke, c3⟩
      · go_wp2_with fail
        go_ret
        exact ⟨⟨n, rfl, HCR.out.fin (.inr (by omega))⟩, hbr⟩
    · go_wp2_with fail
      go_ret
      exact ⟨⟨n, rfl, HCR.out.fin (.inl (by omega))⟩, hbr⟩
def IsG (e : Xp) (m : Int) (r : Ending) : Prop := ∃ b : Bool, r = .returned (.bool b) ∧ (b = false → (e.nd : Int) ≤ m)
set_option maxHeartbeats 16000000 in
theorem great10_any (e : Xp) (m : Int) (m0 : 0 ≤ m) (m1 : m ≤ 1000000) (w : World) (h : XpIn w e) : Calls Tryz.prog 186 #[.agg #[.int .i64 (e).op, .int .i64 (e).n, .string (e).s, .slice (e).a (e).l.length (e).k], .int .i64 m] w fun r w' => IsG e m r ∧ Below w.heap.size w w' := by
  have HC := Lib.hid (fun (W : World) (hW : Below w.heap.size w W) => count_any e m m0 m1 W (h.later hW))
  clear h m0 m1
  have cw : Below w.heap.size w (w.alloc (.cells #[.int .i64 (e).op, .int .i64 (e).n, .string (e).s, .slice (e).a (e).l.length (e).k] 139)) := Bk.be
  have ke : Bk.Blk (w.alloc (.cells #[.int .i64 (e).op, .int .i64 (e).n, .string (e).s, .slice (e).a (e).l.length (e).k] 139)) w.heap.size _ 139 := Bk.Blk.nw10
  go_enter Tryz.func186, Tryz.ntmps186
  go_upto_region 1 with fail
  generalize (w.alloc (.cells _ 139)) = w1 at *
  go_wp2_with ((refine wpList_load_row rfl 139 _ rfl _ rfl _ _ _ _ (ke) Tryz.underlying139 rfl (by kernel_rfl) ?_))
  refine (HC.out _ cw).mono ?_
  rintro r w3 ⟨⟨n, rfl, hcp⟩, hb⟩
  have c3 := bl2 hb cw
  have HN := Lib.hid (fun hd => hcp.small hd)
  clear hcp hb
  go_wp2_with fail
  go_ret
  exact ⟨⟨_, rfl, HN.out⟩, c3⟩
set_option maxHeartbeats 16000000 in
theorem depth10_any (e : Xp) : ∀ w : World, XpIn w e → Calls Tryz.prog 187 #[.agg #[.int .i64 (e).op, .int .i64 (e).n, .string (e).s, .slice (e).a (e).l.length (e).k]] w fun r w' => IsN r ∧ Below w.heap.size w w' := by
  induction e using Xp.ind with
  | h e ih =>
  intro w h
  have hln := h.ln
  have hml : e.l.length ≤ 9223372036854775807 := by unfold maxLen at hln; omega
  clear hln
  have HIH := Lib.hid (fun (k : Nat) (hk : k < e.l.length) (W : World) (hW : Below w.heap.size w W) => ih e.l[k]! (by rw [getElem!_pos e.l k hk]; exact List.getElem_mem hk) W ((h.at hk).later hW))
  have HR := Lib.hid h.r
  clear h ih
  have cw : Below w.heap.size w (w.alloc (.cells #[.int .i64 (e).op, .int .i64 (e).n, .string (e).s, .slice (e).a (e).l.length (e).k] 139)) := Bk.be
  have ke : Bk.Blk (w.alloc (.cells #[.int .i64 (e).op, .int .i64 (e).n, .string (e).s, .slice (e).a (e).l.length (e).k] 139)) w.heap.size _ 139 := Bk.Blk.nw10
  go_enter Tryz.func187, Tryz.ntmps187
  go_upto_region 1 with fail
  generalize (w.alloc (.cells _ 139)) = w1 at *
  go_wp2_with fail
  go_loopg [3, 4] e.l.length (XpR w e)
  case atStart => exact ⟨0, by omega, rfl, ⟨_, rfl⟩, ke, cw⟩
  case round =>
    clear ke cw
    obtain ⟨k, hk, rfl, ⟨n, rfl⟩, ke, hbr⟩ := hrel
    have e3 := ke.c3
    by_cases hlt : k < e.l.length
    · obtain ⟨b, off, ha, hc⟩ := rowat xpenc_len HR.out (by omega)
      have hm := range_later hbr (hc k hlt)
      clear hc
      have HC := Lib.hid (HIH.out k hlt)
      obtain ⟨x, hxx⟩ : ∃ x, x = e.l[k]! := ⟨_, rfl⟩
      rw [← hxx] at hm HC
      clear hxx
      rw [ha] at e3
      clear ha
      go_wp2_with ((refine wpList_load_mid rfl 139 _ rfl _ (off + k * 4) (by first | rfl | simp) ([.int .i64 (x).op, .int .i64 (x).n, .string (x).s, .slice (x).a (x).l.length (x).k]) _ (hm) Tryz.underlying139 rfl (by kernel_rfl) ?_))
      refine (HC.out _ hbr).mono ?_
      rintro r w3 ⟨⟨c, rfl⟩, hb⟩
      have c3 := bl2 hb hbr
      replace ke := ke.later hb
      clear hb e3
      go_wp2_with fail
      go_roundg (gk - 1)
      case measure => omega
      case rel => exact ⟨k + 1, by omega, by go_num, ⟨_, rfl⟩, ke, c3⟩
    · go_wp2_with fail
      go_ret
      exact ⟨⟨_, rfl⟩, hbr⟩
theorem slto_st (a : Option Addr) (n c k : Nat) (h : k ≤ c) (W : World) : (Instr.slice 206 (.slice a n c) none (some (.int .i64 k)) none).run Tryz.prog W = .ok (.slice a k c) W := by
  have h2 : ((k : Int)).toNat = k := by omega
  simp [Instr.slice, run_underlying Tryz.underlying206, Instr.sliceBounds, Instr.sliceBound, asIntOf, go_sem, h2, h]
theorem slfrom_st (a : Option Addr) (xs : List ByteArray) (c k : Nat) (h : k ≤ xs.length) (hc : xs.length ≤ c) : ∃ (a2 : Option Addr) (c2 : Nat), (∀ W : World, (Instr.slice 206 (.slice a xs.length c) (some (.int .i64 k)) none none).run Tryz.prog W = .ok (.slice a2 (xs.drop k).length c2) W) ∧ ∀ W : World, RowIn Sr.senc W a xs → RowIn Sr.senc W a2 (xs.drop k) := by
  have h2 : ((k : Int)).toNat = k := by omega
  refine ⟨if c = k then a else a.map (·.add (k * 1)), c - k, fun W => ?_, fun W hr h0 => ?_⟩
  · rw [List.length_drop]
    simp [Instr.slice, run_underlying Tryz.underlying206, Instr.sliceBounds, Instr.sliceBound, asIntOf, go_sem, h2, h]
  · have h0' := h0
    rw [List.length_drop] at h0'
    obtain ⟨b, off, ha, -⟩ := hr (by omega)
    have e1 : (if c = k then a else a.map (·.add (k * 1))) = some ⟨b, off + k * 1, none⟩ := by rw [if_neg (by omega), ha, Option.map_some, Addr.add_mid]
    rw [e1]
    exact row_drop Sr.senc_len k (ha ▸ hr) h0
def IsI (B : Nat) (xs : List ByteArray) (r : Ending) (w' : World) : Prop := ∃ (v : Value) (ys : List ByteArray), r = .returned v ∧ Sr.SV w' B v ys ∧ ys.length ≤ xs.length + 1 ∧ ∀ t ∈ ys, t.size ≤ maxLen
theorem gv_weaken {α : Type} {enc : α → List Value} {k : Nat} {T : TypeId} {W : World} {B B' : Nat} {v : Value} {xs : List α} (h : Sr.GV enc k T W B v xs) (hB : B' ≤ B) : Sr.GV enc k T W B' v xs := by
  obtain ⟨⟨hl, ho⟩, hs⟩ := h
  refine ⟨⟨hl, ?_⟩, hs⟩
  rcases ho with ho | ⟨g', cap, cur, h1, h2, h3⟩
  · exact .inl ho
  · exact .inr ⟨g', cap, cur, h1, by omega, h3⟩
theorem gvs_cap {α : Type} {enc : α → List Value} {k : Nat} {T : TypeId} {W : World} {B : Nat} {v : Value} {xs : List α} (h : Sr.GV enc k T W B v xs) : ∃ a c, v = .slice a xs.length c ∧ RowIn enc W a xs ∧ xs.length ≤ c := by
  obtain ⟨a, c, rfl, hr, _⟩ := h.row
  refine ⟨a, c, rfl, hr, ?_⟩
  rcases h.1.2 with ⟨e, e0⟩ | ⟨_, _, _, e, _, _, h4, _⟩
  · obtain ⟨_, _, rfl⟩ := by simpa using e
    omega
  · obtain ⟨_, _, rfl⟩ := by simpa using e
    exact h4
set_option maxHeartbeats 16000000 in
theorem insert10_any (B : Nat) (v : Value) (xs : List ByteArray) (s : ByteArray) (w : World) (hg : Sr.SV w B v xs) (hB : B ≤ w.heap.size) (hn : xs.length ≤ 100000) (hz : ∀ t ∈ xs, t.size ≤ maxLen) (hs : s.size ≤ maxLen) :
    Calls Tryz.prog 210 #[v, .string s] w fun r w' => IsI B xs r w' ∧ Below w.heap.size w w' := by
  obtain ⟨a, c, rfl, hrow, hcap⟩ := gvs_cap hg
  have H := Lib.hid hrow
  have HG := Lib.hid hg
  have HZ := Lib.hid hz
  have HS := Lib.hid hs
  have HB := Lib.hid hB
  clear hrow hg hz hs hB
  go_enter Tryz.func210, Tryz.ntmps210
  go_wp2_with fail
  go_loopg [5] xs.length (CntS xs.length w)
  case atStart => exact ⟨0, by omega, rfl, rfl⟩
  case round =>
    obtain ⟨i, hi, rfl, rfl⟩ := hrel
    by_cases hlt : i < xs.length
    · obtain ⟨b, off, ha, hc⟩ := rowat Sr.senc_len H.out (by omega)
      have m0 : w.cell? ⟨b, off + i, none⟩ = some (.string xs[i]!) := by
        rw [show off + i = off + i * 1 + 0 by omega]
        exact hc i hlt 0 _ rfl
      clear hc
      subst ha
      obtain ⟨d, hd⟩ : ∃ d, d = xs[i]! := ⟨_, rfl⟩
      rw [← hd] at m0
      clear hd
      have hsl1 : ∀ W : World, (Instr.slice 206 (.slice (some ⟨b, off, none⟩) xs.length c) none (some (.int .i64 i)) none).run Tryz.prog W = .ok (.slice (some ⟨b, off, none⟩) (xs.take i).length c) W := fun W => by
        rw [show (xs.take i).length = i by rw [List.length_take]; omega]
        exact slto_st (some ⟨b, off, none⟩) xs.length c i (by omega) W
      obtain ⟨a2, c2, hsl2, hr2⟩ := slfrom_st (some ⟨b, off, none⟩) xs c i (by omega) (by omega)
      have HR2 := Lib.hid (hr2 w H.out)
      clear hr2
      have hlt1 : (xs.take i).length ≤ xs.length := by rw [List.length_take]; omega
      have hld1 : (xs.drop i).length ≤ xs.length := by rw [List.length_drop]; omega
      have HLEN := Lib.hid (show (xs.take i ++ [s] ++ xs.drop i).length ≤ xs.length + 1 by simp; omega)
      have HSZ := Lib.hid (show ∀ t ∈ xs.take i ++ [s] ++ xs.drop i, t.size ≤ maxLen from fun t ht => by
        simp only [List.mem_append, List.mem_singleton] at ht
        rcases ht with (ht | rfl) | ht
        · exact HZ.out t (List.mem_of_mem_take ht)
        · exact HS.out
        · exact HZ.out t (List.mem_of_mem_drop ht))
      have HT := Lib.hid (row_take i H.out)
      generalize xs.take i = ts at *
      generalize xs.drop i = ds at *
      go_wp2_with (at_builtin; refine Sr.apps_str (B := w.heap.size) ts rfl _ _ rfl rfl (Sr.GV.nil _ _) _ _ rfl HT.out (by simp; omega) (Nat.le_refl _) ?_)
      all_goals first
        | (go_roundg (gk - 1)
           case measure => omega
           case rel => exact ⟨i + 1, by omega, by go_num, rfl⟩)
        | (go_ret
           exact ⟨⟨_, _, rfl, HG.out, by omega, HZ.out⟩, Below.refl _ _⟩)
        | skip
      all_goals
        intro v1 w1 hv1 c1 hx1
        clear hx1
        have HV1 := Lib.hid hv1
        clear hv1 hsl1
        have hz1 := c1.size
        go_wp2_with (at_builtin; refine Sr.app_str (B := w.heap.size) s rfl _ _ rfl rfl HV1.out rfl (by omega) hz1 ?_)
        intro v2 w2 hv2 hgr hx1
        clear hx1
        have c2' : Below w.heap.size w w2 := Sr.grown_below c1 HV1.out hgr
        have HV2 := Lib.hid hv2
        clear hv2 hgr hz1 c1
        have hz2 := c2'.size
        go_wp2_with (at_builtin; refine Sr.apps_str (B := w.heap.size) ds rfl _ _ rfl rfl HV2.out _ _ rfl (HR2.out.later c2') (by simp; omega) hz2 ?_)
        intro v3 w3 hv3 c3 hx1
        clear hx1
        have HV3 := Lib.hid hv3
        have c4 := c2'.trans c3
        clear hv3 c3
        go_wp2_with fail
        go_ret
        exact ⟨⟨_, _, rfl, gv_weaken HV3.out HB.out, by simpa using HLEN.out, by simpa using HSZ.out⟩, c4⟩
    · have hsl1 : ∀ W : World, (Instr.slice 206 (.slice a xs.length c) none (some (.int .i64 i)) none).run Tryz.prog W = .ok (.slice a (xs.take i).length c) W := fun W => by
        rw [show (xs.take i).length = i by rw [List.length_take]; omega]
        exact slto_st a xs.length c i (by omega) W
      obtain ⟨a2, c2, hsl2, hr2⟩ := slfrom_st a xs c i (by omega) (by omega)
      have HR2 := Lib.hid (hr2 w H.out)
      clear hr2
      have hlt1 : (xs.take i).length ≤ xs.length := by rw [List.length_take]; omega
      have hld1 : (xs.drop i).length ≤ xs.length := by rw [List.length_drop]; omega
      have HLEN := Lib.hid (show (xs.take i ++ [s] ++ xs.drop i).length ≤ xs.length + 1 by simp; omega)
      have HSZ := Lib.hid (show ∀ t ∈ xs.take i ++ [s] ++ xs.drop i, t.size ≤ maxLen from fun t ht => by
        simp only [List.mem_append, List.mem_singleton] at ht
        rcases ht with (ht | rfl) | ht
        · exact HZ.out t (List.mem_of_mem_take ht)
        · exact HS.out
        · exact HZ.out t (List.mem_of_mem_drop ht))
      have HT := Lib.hid (row_take i H.out)
      generalize xs.take i = ts at *
      generalize xs.drop i = ds at *
      go_wp2_with (at_builtin; refine Sr.apps_str (B := w.heap.size) ts rfl _ _ rfl rfl (Sr.GV.nil _ _) _ _ rfl HT.out (by simp; omega) (Nat.le_refl _) ?_)
      intro v1 w1 hv1 c1 hx1
      clear hx1
      have HV1 := Lib.hid hv1
      clear hv1 hsl1
      have hz1 := c1.size
      go_wp2_with (at_builtin; refine Sr.app_str (B := w.heap.size) s rfl _ _ rfl rfl HV1.out rfl (by omega) hz1 ?_)
      intro v2 w2 hv2 hgr hx1
      clear hx1
      have c2' : Below w.heap.size w w2 := Sr.grown_below c1 HV1.out hgr
      have HV2 := Lib.hid hv2
      clear hv2 hgr hz1 c1
      have hz2 := c2'.size
      go_wp2_with (at_builtin; refine Sr.apps_str (B := w.heap.size) ds rfl _ _ rfl rfl HV2.out _ _ rfl (HR2.out.later c2') (by simp; omega) hz2 ?_)
      intro v3 w3 hv3 c3 hx1
      clear hx1
      have HV3 := Lib.hid hv3
      have c4 := c2'.trans c3
      clear hv3 c3
      go_wp2_with fail
      go_ret
      exact ⟨⟨_, _, rfl, gv_weaken HV3.out HB.out, by simpa using HLEN.out, by simpa using HSZ.out⟩, c4⟩
def isStr : Value → Bool
  | .string _ => true
  | _ => false
def IsWs (n : Nat) (e : Ending) (w' : World) : Prop := ∃ g : Nat, e = .returned (.slice (some ⟨g, 0, none⟩) n n) ∧ ∀ i, i < n → ∃ s : ByteArray, w'.cell? ⟨g, i, none⟩ = some (.string s)
theorem strs_at {W : World} {g : Nat} {cs : Array Value} {t : TypeId} (h : Bk.Blk W g cs t) (ha : cs.toList.all isStr = true) (i : Nat) (hi : i < cs.size) : ∃ s : ByteArray, W.cell? ⟨g, i, none⟩ = some (.string s) := by
  rw [h.cell]
  have hm : cs[i] ∈ cs.toList := by simp
  have := List.all_eq_true.1 ha _ hm
  cases hv : cs[i] with
  | string s => exact ⟨s, by rw [Array.getElem?_eq_getElem hi, hv]⟩
  | _ => rw [hv] at this; cases this
set_option maxHeartbeats 8000000 in
theorem words_any (w : World) : Calls Tryz.prog 232 #[] w fun e w' => IsWs 42 e w' ∧ Below w.heap.size w w' := by
  go_enter Tryz.func232, Tryz.ntmps232
  go_wp2_with fail
  go_ret
  exact ⟨⟨_, rfl, fun i hi => strs_at Bk.Blk.nw10 (by rfl) i hi⟩, Bk.be⟩
set_option maxHeartbeats 8000000 in
theorem word09_any (s : ByteArray) (w : World) : Calls Tryz.prog 212 #[.string s] w fun e w' => IsB e ∧ Below w.heap.size w w' := by
  go_enter Tryz.func212, Tryz.ntmps212
  go_wp2_with fail
  refine (words_any _).mono ?_
  rintro e w2 ⟨⟨g, rfl, hc⟩, hb⟩
  have HC := Lib.hid hc
  clear hc
  go_wp2_with fail
  go_loopg [4] 42 (CntS 42 w2)
  case atStart => exact ⟨0, by omega, rfl, rfl⟩
  case round =>
    obtain ⟨i, hi, rfl, rfl⟩ := hrel
    by_cases hlt : i < 42
    · obtain ⟨t, m0⟩ := HC.out i hlt
      go_wp2_with fail
      all_goals first
        | (go_ret; exact ⟨⟨_, rfl⟩, hb⟩)
        | (go_roundg (gk - 1)
           case measure => omega
           case rel => exact ⟨i + 1, by omega, by go_num, rfl⟩)
    · go_wp2_with fail
      go_ret
      exact ⟨⟨_, rfl⟩, hb⟩
set_option maxHeartbeats 8000000 in
theorem variable_any (s : ByteArray) (w : World) (hs : s.size ≤ maxLen) : Calls Tryz.prog 190 #[.string s] w fun e w' => IsB e ∧ Below w.heap.size w w' := by
  have HS := Lib.hid hs
  clear hs
  go_enter Tryz.func190, Tryz.ntmps190
  go_wp2_with fail
  refine (name07_any _ _ HS.out).mono ?_
  rintro e w' ⟨⟨q, rfl⟩, rfl⟩
  cases q
  · go_wp2_with fail
    go_ret
    exact ⟨⟨_, rfl⟩, Below.refl _ _⟩
  go_wp2_with fail
  refine (word09_any _ _).mono ?_
  rintro e w2 ⟨⟨q, rfl⟩, hb⟩
  go_wp2_with fail
  go_ret
  exact ⟨⟨_, rfl⟩, hb⟩
def IsNm (e : Xp) (B : Nat) (r : Ending) (w' : World) : Prop := ∃ (v : Value) (l : List ByteArray), r = .returned v ∧ Sr.SV w' B v l ∧ l.length ≤ e.nd ∧ ∀ t ∈ l, t.size ≤ maxLen
def NmR (w : World) (e : Xp) (g : Nat) (s3 s4 : Value) (W : World) : Prop := ∃ (k : Nat) (l : List ByteArray), k + g = e.l.length ∧ s4 = .int .i64 k ∧ Sr.SV W (w.heap.size + 1) s3 l ∧ l.length ≤ 1 + ndL (e.l.take k) ∧ (∀ t ∈ l, t.size ≤ maxLen) ∧ Bk.Blk W w.heap.size #[.int .i64 (e).op, .int .i64 (e).n, .string (e).s, .slice (e).a (e).l.length (e).k] 139 ∧ Below w.heap.size w W
def NiR (w : World) (e : Xp) (c : Nat) (a5 : Option Addr) (ls : List ByteArray) (g : Nat) (s3 s6 : Value) (W : World) : Prop := ∃ (j : Nat) (l : List ByteArray), j + g = ls.length ∧ s6 = .int .i64 j ∧ Sr.SV W (w.heap.size + 1) s3 l ∧ l.length ≤ c + j ∧ (∀ t ∈ l, t.size ≤ maxLen) ∧ RowIn Sr.senc W a5 ls ∧ Bk.Blk W w.heap.size #[.int .i64 (e).op, .int .i64 (e).n, .string (e).s, .slice (e).a (e).l.length (e).k] 139 ∧ Below w.heap.size w W
set_option maxHeartbeats 32000000 in
theorem names10_any (e : Xp) : e.nd ≤ 1000 → ∀ w : World, XpIn w e → Calls Tryz.prog 189 #[.agg #[.int .i64 (e).op, .int .i64 (e).n, .string (e).s, .slice (e).a (e).l.length (e).k]] w fun r w' => IsNm e w.heap.size r w' ∧ Below w.heap.size w w' := by
  induction e using Xp.ind with
  | h e ih =>
  intro hnd
  intro w h
  have hln := h.ln
  have hml : e.l.length ≤ 9223372036854775807 := by unfold maxLen at hln; omega
  clear hln
  have HIH := Lib.hid (fun (k : Nat) (hk : k < e.l.length) (W : World) (hW : Below w.heap.size w W) => ih e.l[k]! (by rw [getElem!_pos e.l k hk]; exact List.getElem_mem hk) (by have := nd_lt (e := e) (x := e.l[k]!) (by rw [getElem!_pos e.l k hk]; exact List.getElem_mem hk); omega) W ((h.at hk).later hW))
  have HR := Lib.hid h.r
  have HES := Lib.hid h.s
  have HND := Lib.hid hnd
  have HNQ := Lib.hid (nd_eq e)
  clear h ih hnd
  have cw : Below w.heap.size w (w.alloc (.cells #[.int .i64 (e).op, .int .i64 (e).n, .string (e).s, .slice (e).a (e).l.length (e).k] 139)) := Bk.be
  have ke : Bk.Blk (w.alloc (.cells #[.int .i64 (e).op, .int .i64 (e).n, .string (e).s, .slice (e).a (e).l.length (e).k] 139)) w.heap.size _ 139 := Bk.Blk.nw10
  go_enter Tryz.func189, Tryz.ntmps189
  go_upto_region 2 with fail
  generalize (w.alloc (.cells _ 139)) = w1 at *
  have hz1 := ke.lt
  have e0 := ke.c0
  have e2 := ke.c2
  by_cases h4 : e.op = 4
  · have g4 : (e.op == 4) = true := by rw [h4]; rfl
    clear h4
    go_wp2_with (at_builtin; refine Sr.app_str (B := w.heap.size + 1) e.s rfl _ _ rfl rfl (Sr.GV.nil _ _) rfl (by simp) (by omega) ?_)
    intro v1 w2 hv1 hgr hx1
    clear hx1
    have c2 : Below w.heap.size w w2 := (cw.alloc cw.size _).grown hgr (by have := cw.size; simp; omega) (fun j hj => by cases hj)
    have ke2 := Sr.grown_blk ke hgr (by simp [Value.ownBlock])
    have HV := Lib.hid hv1
    have HZ1 := Lib.hid (show ∀ t ∈ [e.s], t.size ≤ maxLen from fun t ht => by rw [List.mem_singleton] at ht; rw [ht]; exact HES.out)
    clear hv1 hgr e0 e2 ke cw hz1 g4
    go_wp2_with fail
    go_loopg [3, 4] e.l.length (NmR w e)
    case atStart => exact ⟨0, [e.s], by omega, rfl, HV.out, by simp [ndL], HZ1.out, ke2, c2⟩
    case round =>
      clear ke2 c2 HV HZ1
      obtain ⟨k, l, hk, rfl, hv, hl, hz, ke, hbr⟩ := hrel
      have HZ := Lib.hid hz
      have HV := Lib.hid hv
      clear hz hv
      have e3 := ke.c3
      by_cases hlt : k < e.l.length
      · obtain ⟨b, off, ha, hc⟩ := rowat xpenc_len HR.out (by omega)
        have hm := range_later hbr (hc k hlt)
        clear hc
        have HC := Lib.hid (HIH.out k hlt)
        have HNT := Lib.hid (show ndL (e.l.take (k + 1)) = ndL (e.l.take k) + (e.l[k]!).nd by rw [ndL_take _ _ hlt, getElem!_pos e.l k hlt])
        obtain ⟨x, hxx⟩ : ∃ x, x = e.l[k]! := ⟨_, rfl⟩
        rw [← hxx] at hm HC HNT
        clear hxx
        rw [ha] at e3
        clear ha
        have HTL := Lib.hid (ndL_take_le e.l (k + 1))
        go_wp2_with ((refine wpList_load_mid rfl 139 _ rfl _ (off + k * 4) (by first | rfl | simp) ([.int .i64 (x).op, .int .i64 (x).n, .string (x).s, .slice (x).a (x).l.length (x).k]) _ (hm) Tryz.underlying139 rfl (by kernel_rfl) ?_))
        refine (HC.out _ hbr).mono ?_
        rintro r w3 ⟨⟨v5, ls, rfl, hsv, hls, hz5⟩, hb⟩
        have c3 := bl2 hb hbr
        replace ke := ke.later hb
        have HV3 := Lib.hid (HV.out.later hb)
        have HL := Lib.hid hl
        have HLS := Lib.hid hls
        have HZ5 := Lib.hid hz5
        obtain ⟨a5, c5, rfl, hr5, -⟩ := hsv.row
        have HR5 := Lib.hid hr5
        have hls2 : ls.length ≤ 1000 := by have := HTL.out; have := HNT.out; have := HND.out; have := HNQ.out; omega
        clear hb e3 hm hbr HC HV hl hls hz5 hsv hr5
        obtain ⟨gk0, rfl⟩ : ∃ y, y = gk := ⟨_, rfl⟩
        go_wp2_with fail
        go_loopg [3, 6] ls.length (NiR w e (1 + ndL (e.l.take k)) a5 ls)
        case atStart => exact ⟨0, l, by omega, rfl, HV3.out, HL.out, HZ.out, HR5.out, ke, c3⟩
        case round =>
          clear ke c3
          obtain ⟨j, l2, hj, rfl, hv, hl, hz, hr5, ke, hbr⟩ := hrel
          have HV := Lib.hid hv
          have HL2 := Lib.hid hl
          have HZ2 := Lib.hid hz
          have HR6 := Lib.hid hr5
          clear hv hl hz hr5
          by_cases hlt2 : j < ls.length
          · obtain ⟨b2, off2, rfl, hc2⟩ := rowat Sr.senc_len HR6.out (by omega)
            have m0 : wr.cell? ⟨b2, off2 + j, none⟩ = some (.string ls[j]!) := by
              rw [show off2 + j = off2 + j * 1 + 0 by omega]
              exact hc2 j hlt2 0 _ rfl
            have hd5 := HZ5.out ls[j]! (by rw [getElem!_pos ls j hlt2]; exact List.getElem_mem hlt2)
            clear hc2
            obtain ⟨d, hd⟩ : ∃ d, d = ls[j]! := ⟨_, rfl⟩
            rw [← hd] at m0 hd5
            have HD5 := Lib.hid hd5
            clear hd hd5
            have hkl := ke.lt
            have HLE := Lib.hid (show l2.length ≤ 100000 by have := HL2.out; have := HTL.out; have := HNT.out; have := HND.out; have := HNQ.out; omega)
            go_wp2_with fail
            refine (insert10_any (w.heap.size + 1) _ l2 d _ HV.out (by omega) HLE.out HZ2.out HD5.out).mono ?_
            rintro r w5 ⟨⟨v', ys, rfl, hv', hl', hz'⟩, hb⟩
            have c5 := bl2 hb hbr
            replace ke := ke.later hb
            have HR7 := Lib.hid (HR6.out.later hb)
            have HVY := Lib.hid hv'
            have HLY := Lib.hid (show ys.length ≤ 1 + ndL (e.l.take k) + (j + 1) by have := HL2.out; omega)
            have HZY := Lib.hid hz'
            clear hb hv' hl' hz' m0 hkl
            go_wp2_with fail
            go_roundg (gk - 1)
            case measure => omega
            case rel => exact ⟨j + 1, ys, by omega, by go_num, HVY.out, HLY.out, HZY.out, HR7.out, ke, c5⟩
          · have HLF := Lib.hid (show l2.length ≤ 1 + ndL (e.l.take (k + 1)) by have := HL2.out; have := HNT.out; have := HLS.out; omega)
            go_wp2_with fail
            go_roundg (gk0 - 1)
            case measure => omega
            case rel => exact ⟨k + 1, l2, by omega, by go_num, HV.out, HLF.out, HZ2.out, ke, hbr⟩
      · have HLF := Lib.hid (show l.length ≤ e.nd by have := ndL_take_le e.l k; have := HNQ.out; omega)
        go_wp2_with fail
        go_ret
        exact ⟨⟨_, l, rfl, gv_weaken HV.out (by omega), HLF.out, HZ.out⟩, hbr⟩
  · have g4 : (e.op == 4) = false := beq_eq_false_iff_ne.2 h4
    clear h4
    go_wp2_with fail
    clear e0 e2 hz1 g4
    go_loopg [3, 4] e.l.length (NmR w e)
    case atStart => exact ⟨0, [], by omega, rfl, Sr.GV.nil _ _, by simp, fun t ht => (by cases ht), ke, cw⟩
    case round =>
      clear ke cw
      obtain ⟨k, l, hk, rfl, hv, hl, hz, ke, hbr⟩ := hrel
      have HZ := Lib.hid hz
      have HV := Lib.hid hv
      clear hz hv
      have e3 := ke.c3
      by_cases hlt : k < e.l.length
      · obtain ⟨b, off, ha, hc⟩ := rowat xpenc_len HR.out (by omega)
        have hm := range_later hbr (hc k hlt)
        clear hc
        have HC := Lib.hid (HIH.out k hlt)
        have HNT := Lib.hid (show ndL (e.l.take (k + 1)) = ndL (e.l.take k) + (e.l[k]!).nd by rw [ndL_take _ _ hlt, getElem!_pos e.l k hlt])
        obtain ⟨x, hxx⟩ : ∃ x, x = e.l[k]! := ⟨_, rfl⟩
        rw [← hxx] at hm HC HNT
        clear hxx
        rw [ha] at e3
        clear ha
        have HTL := Lib.hid (ndL_take_le e.l (k + 1))
        go_wp2_with ((refine wpList_load_mid rfl 139 _ rfl _ (off + k * 4) (by first | rfl | simp) ([.int .i64 (x).op, .int .i64 (x).n, .string (x).s, .slice (x).a (x).l.length (x).k]) _ (hm) Tryz.underlying139 rfl (by kernel_rfl) ?_))
        refine (HC.out _ hbr).mono ?_
        rintro r w3 ⟨⟨v5, ls, rfl, hsv, hls, hz5⟩, hb⟩
        have c3 := bl2 hb hbr
        replace ke := ke.later hb
        have HV3 := Lib.hid (HV.out.later hb)
        have HL := Lib.hid hl
        have HLS := Lib.hid hls
        have HZ5 := Lib.hid hz5
        obtain ⟨a5, c5, rfl, hr5, -⟩ := hsv.row
        have HR5 := Lib.hid hr5
        have hls2 : ls.length ≤ 1000 := by have := HTL.out; have := HNT.out; have := HND.out; have := HNQ.out; omega
        clear hb e3 hm hbr HC HV hl hls hz5 hsv hr5
        obtain ⟨gk0, rfl⟩ : ∃ y, y = gk := ⟨_, rfl⟩
        go_wp2_with fail
        go_loopg [3, 6] ls.length (NiR w e (1 + ndL (e.l.take k)) a5 ls)
        case atStart => exact ⟨0, l, by omega, rfl, HV3.out, HL.out, HZ.out, HR5.out, ke, c3⟩
        case round =>
          clear ke c3
          obtain ⟨j, l2, hj, rfl, hv, hl, hz, hr5, ke, hbr⟩ := hrel
          have HV := Lib.hid hv
          have HL2 := Lib.hid hl
          have HZ2 := Lib.hid hz
          have HR6 := Lib.hid hr5
          clear hv hl hz hr5
          by_cases hlt2 : j < ls.length
          · obtain ⟨b2, off2, rfl, hc2⟩ := rowat Sr.senc_len HR6.out (by omega)
            have m0 : wr.cell? ⟨b2, off2 + j, none⟩ = some (.string ls[j]!) := by
              rw [show off2 + j = off2 + j * 1 + 0 by omega]
              exact hc2 j hlt2 0 _ rfl
            have hd5 := HZ5.out ls[j]! (by rw [getElem!_pos ls j hlt2]; exact List.getElem_mem hlt2)
            clear hc2
            obtain ⟨d, hd⟩ : ∃ d, d = ls[j]! := ⟨_, rfl⟩
            rw [← hd] at m0 hd5
            have HD5 := Lib.hid hd5
            clear hd hd5
            have hkl := ke.lt
            have HLE := Lib.hid (show l2.length ≤ 100000 by have := HL2.out; have := HTL.out; have := HNT.out; have := HND.out; have := HNQ.out; omega)
            go_wp2_with fail
            refine (insert10_any (w.heap.size + 1) _ l2 d _ HV.out (by omega) HLE.out HZ2.out HD5.out).mono ?_
            rintro r w5 ⟨⟨v', ys, rfl, hv', hl', hz'⟩, hb⟩
            have c5 := bl2 hb hbr
            replace ke := ke.later hb
            have HR7 := Lib.hid (HR6.out.later hb)
            have HVY := Lib.hid hv'
            have HLY := Lib.hid (show ys.length ≤ 1 + ndL (e.l.take k) + (j + 1) by have := HL2.out; omega)
            have HZY := Lib.hid hz'
            clear hb hv' hl' hz' m0 hkl
            go_wp2_with fail
            go_roundg (gk - 1)
            case measure => omega
            case rel => exact ⟨j + 1, ys, by omega, by go_num, HVY.out, HLY.out, HZY.out, HR7.out, ke, c5⟩
          · have HLF := Lib.hid (show l2.length ≤ 1 + ndL (e.l.take (k + 1)) by have := HL2.out; have := HNT.out; have := HLS.out; omega)
            go_wp2_with fail
            go_roundg (gk0 - 1)
            case measure => omega
            case rel => exact ⟨k + 1, l2, by omega, by go_num, HV.out, HLF.out, HZ2.out, ke, hbr⟩
      · have HLF := Lib.hid (show l.length ≤ e.nd by have := ndL_take_le e.l k; have := HNQ.out; omega)
        go_wp2_with fail
        go_ret
        exact ⟨⟨_, l, rfl, gv_weaken HV.out (by omega), HLF.out, HZ.out⟩, hbr⟩
end Go.Proofs.YtjhpiclnpmdjnaaGreatDoor.Bm
