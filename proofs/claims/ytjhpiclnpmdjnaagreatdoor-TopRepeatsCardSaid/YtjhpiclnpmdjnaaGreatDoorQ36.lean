/-
  Parts of the proof: Y15, Y16, Y17.
-/
import Derived.Test.YtjhpiclnpmdjnaaGreatDoorQ35
import Derived.Laws.BytesArg
namespace Go.Proofs.YtjhpiclnpmdjnaaGreatDoor.Bm
open Go Go.RowKit
open Go.Proofs.YtjhpiclnpmdjnaaGreatDoor
open Go.Proofs.YtjhpiclnpmdjnaaGreatDoor.Kl (byt byt_get)
open Go.Proofs.YtjhpiclnpmdjnaaGreatDoor.Ln (SB tk ts z0 z1 z3 z4 z5 take_at call_at flat flat_len flat_get flat_mem RowIn OwnR Idx bl2 results2_cell Blk_setRow_same Blk_setRow_ne Below_setRow)
set_option linter.unusedSimpArgs false
set_option linter.unusedVariables false
set_option maxRecDepth 100000
set_option maxHeartbeats 16000000 in
theorem int07_any (n : Int) (w : World) (h0 : -9223372036854775808 ≤ n) (h1 : n ≤ 9223372036854775807) : Calls Tryz.prog 146 #[.int .i64 n] w fun e w' => IsT 21 e ∧ w = w' := by
 go_enter Tryz.func146, Tryz.ntmps146
 by_cases hn : 0 ≤ n
 ·have hw1 : IntKind.u64.wrap n = n := by rw [IntKind.wrap_u64]; omega
  go_wp2_with fail
  refine (nat07_any _ _ (by omega) (by omega)).mono ?_
  rintro e w' ⟨⟨s, rfl, hs⟩, rfl⟩
  go_wp2_with fail
  go_ret
  exact ⟨⟨_, rfl, by omega⟩, rfl⟩
 ·have H := Lib.hid (fun (m : Int) => nat07_any (IntKind.u64.wrap m) w (by rw [IntKind.wrap_u64]; omega) (by rw [IntKind.wrap_u64]; omega))
  go_wp2_with fail
  refine (H.out _).mono ?_
  rintro e w' ⟨⟨s, rfl, hs⟩, rfl⟩
  have hsz : (ByteArray.mk #[45] ++ s).size = 1 + s.size := by rw [ByteArray.size_append]; rfl
  have hsz2 : (ByteArray.mk #[45] ++ s).size ≤ 9223372036854775807 := by omega
  go_wp2_with fail
  go_ret
  exact ⟨⟨_, rfl, by omega⟩, rfl⟩
theorem call_ist2 {P : Program} {S : World → Prop} {f : FuncId} {args : Array Value} {W : World} {m : Nat} (hS : S W) (h : Calls P f args W fun e w' => IsT m e ∧ W = w') : Calls P f args W fun e w' => ∃ v, e = .returned v ∧ (∃ t : ByteArray, v = .string t ∧ t.size ≤ m) ∧ S w' :=
 h.mono fun _ _ ⟨⟨t, he, ht⟩, hb⟩ => ⟨_, he, ⟨t, rfl, ht⟩, hb ▸ hS⟩
def RpkR (w : World) (xs : List ByteArray) (g : Nat) (s3 s4 : Value) (W : World) : Prop := ∃ (k : Nat) (s : ByteArray), k + g = xs.length ∧ s4 = .int .i64 k ∧ s3 = .string s ∧ s.size ≤ szL (xs.take k) + 22 * k ∧ Below w.heap.size w W
set_option maxHeartbeats 32000000 in
theorem pack07_any (a : Option Addr) (cap : Nat) (xs : List ByteArray) (w : World) (h : RowIn Sr.senc w a xs) (hn : xs.length ≤ 100000) (hz : szL xs ≤ 1000000000) : Calls Tryz.prog 145 #[.slice a xs.length cap] w fun e w' => IsT (szL xs + 22 * xs.length) e ∧ Below w.heap.size w w' := by
 have H := Lib.hid h
 have HZ := Lib.hid hz
 clear h hz
 go_enter Tryz.func145, Tryz.ntmps145
 go_wp2_with fail
 go_loopg [3, 4] xs.length (RpkR w xs)
 case atStart => exact ⟨0, _, by omega, rfl, rfl, Nat.zero_le _, Below.refl _ _⟩
 case round =>
  obtain ⟨k, s, hk, rfl, rfl, hs, hbr⟩ := hrel
  have HSS := Lib.hid hs
  clear hs
  by_cases hlt : k < xs.length
  ·obtain ⟨b, off, rfl, hc⟩ := rowat Sr.senc_len H.out (by omega)
   have m0 : wr.cell? ⟨b, off + k, none⟩ = some (.string xs[k]!) := by
    rw [show off + k = off + k * 1 + 0 by omega]
    exact range_later hbr (hc k hlt) 0 _ rfl
   clear hc
   have HTK := Lib.hid (show szL (xs.take (k + 1)) = szL (xs.take k) + (xs[k]!).size by rw [szL_take xs k hlt, getElem!_pos xs k hlt])
   obtain ⟨d, hd⟩ : ∃ d, d = xs[k]! := ⟨_, rfl⟩
   rw [← hd] at m0 HTK
   clear hd
   have HTL := Lib.hid (szL_take_le xs (k + 1))
   have hdz : d.size ≤ 1000000000 := by have := HTK.out; have := HTL.out; have := HZ.out; omega
   go_upto_region 5 with fail
   have hS0 : SB wr wr.drew := (Below.refl _ _).drew
   refine wp_region_held_drew (S := SB wr) (by kernel_rfl) hS0 (fun hS => ?_)
   clear hS0
   refine tk 0 (by decide) ?_ hS (by kernel_rfl) (by kernel_rfl) (by kernel_rfl) (by rfl) (fun _ _ _ h => h) ?_ ?_
   rotate_left
   ·intro W hW
    clear hW
    simp only [z0, z1]
    go_simp
    first | done | with_reducible rfl
   simp only [z0, z1, Act.put, z3, z4, z5]
   refine tk 1 (by decide) ?_ hS (by kernel_rfl) (by kernel_rfl) (by kernel_rfl) (by rfl) (fun _ _ _ h => h) ?_ ?_
   rotate_left
   ·intro W hW
    clear hW
    simp only [z0, z1]
    go_simp
    first | done | with_reducible rfl
   simp only [z0, z1, Act.put, z3, z4, z5]
   refine tk 2 (by decide) ?_ hS (by kernel_rfl) (by kernel_rfl) (by kernel_rfl) (by rfl) (fun _ _ _ h => h) ?_ ?_
   rotate_left
   ·intro W hW
    clear hW
    simp only [z0, z1]
    go_simp
    first | done | with_reducible rfl
   simp only [z0, z1, Act.put, z3, z4, z5]
   refine tk 3 (by decide) ?_ hS (by kernel_rfl) (by kernel_rfl) (by kernel_rfl) (by rfl) (fun _ _ _ h => h) ?_ ?_
   rotate_left
   ·intro W hW
    clear hW
    simp only [z0, z1]
    go_simp
    first | done | with_reducible rfl
   simp only [z0, z1, Act.put, z3, z4, z5]
   refine tk 4 (by decide) ?_ hS (by kernel_rfl) (by kernel_rfl) (by kernel_rfl) (by rfl) (fun _ _ _ h => h) ?_ ?_
   rotate_left
   ·intro W hW
    have q0 := cell_later hW m0
    clear hW
    simp only [z0, z1]
    go_simp
    first | done | with_reducible rfl
   simp only [z0, z1, Act.put, z3, z4, z5]
   refine tk 5 (by decide) ?_ hS (by kernel_rfl) (by kernel_rfl) (by kernel_rfl) (by rfl) (fun _ _ _ h => h) ?_ ?_
   rotate_left
   ·intro W hW
    clear hW
    simp only [z0, z1]
    go_simp
    first | done | with_reducible rfl
   simp only [z0, z1, Act.put, z3, z4, z5]
   refine tk 9 (by decide) ?_ hS (by kernel_rfl) (by kernel_rfl) (by kernel_rfl) (by rfl) (fun _ _ _ h => h) ?_ ?_
   rotate_left
   ·intro W hW
    clear hW
    simp only [z0, z1]
    go_simp
    first | done | with_reducible rfl
   simp only [z0, z1, Act.put, z3, z4, z5]
   refine tk 10 (by decide) ?_ hS (by kernel_rfl) (by kernel_rfl) (by kernel_rfl) (by rfl) (fun _ _ _ h => h) ?_ ?_
   rotate_left
   ·intro W hW
    clear hW
    simp only [z0, z1]
    go_simp
    first | done | with_reducible rfl
   simp only [z0, z1, Act.put, z3, z4, z5]
   refine tk 11 (by decide) ?_ hS (by kernel_rfl) (by kernel_rfl) (by kernel_rfl) (by rfl) (fun _ _ _ h => h) ?_ ?_
   rotate_left
   ·intro W hW
    clear hW
    simp only [z0, z1]
    go_simp
    first | done | with_reducible rfl
   simp only [z0, z1, Act.put, z3, z4, z5]
   refine tk 12 (by decide) ?_ hS (by kernel_rfl) (by kernel_rfl) (by kernel_rfl) (by rfl) (fun _ _ _ h => h) ?_ ?_
   rotate_left
   ·intro W hW
    have q0 := cell_later hW m0
    clear hW
    simp only [z0, z1]
    go_simp
    first | done | with_reducible rfl
   simp only [z0, z1, Act.put, z3, z4, z5]
   refine call_at 6 (by decide) (Pi := fun v _ => ∃ t : ByteArray, v = .string t ∧ t.size ≤ 21) (by kernel_rfl) (by rfl) (by simp only [z0, z1]; go_simp; first | done | rfl | exact ⟨rfl, rfl⟩ | exact ⟨rfl, rfl, rfl⟩ | exact ⟨rfl, rfl, rfl, rfl⟩) (call_ist2 hS (int07_any _ _ (by omega) (by omega))) ?_
   clear hS
   rintro w9 u hS ⟨t, rfl, ht⟩
   simp only [z0, z1, Act.put, z3, z4, z5]
   have hsb : s.size ≤ 10000000000 := by have := HSS.out; have := HTK.out; have := HTL.out; have := HZ.out; omega
   have y1 : ¬ 9223372036854775807 < s.size + t.size := by omega
   have y2 : ¬ 9223372036854775807 < s.size + t.size + (ByteArray.mk #[58]).size := by show ¬ 9223372036854775807 < s.size + t.size + 1; omega
   have y2' : ¬ 9223372036854775807 < s.size + t.size + 1 := by omega
   have y3 : ¬ 9223372036854775807 < s.size + t.size + (ByteArray.mk #[58]).size + d.size := by show ¬ 9223372036854775807 < s.size + t.size + 1 + d.size; omega
   have y3' : ¬ 9223372036854775807 < s.size + t.size + 1 + d.size := by omega
   have Z4 := Lib.hid (show (((s ++ t) ++ ByteArray.mk #[58]) ++ d).size ≤ szL (xs.take (k + 1)) + 22 * (k + 1) by rw [ByteArray.size_append, ByteArray.size_append, ByteArray.size_append]; show s.size + t.size + 1 + d.size ≤ _; have := HSS.out; have := HTK.out; omega)
   refine tk 7 (by decide) ?_ hS (by kernel_rfl) (by kernel_rfl) (by kernel_rfl) (by rfl) (fun _ _ _ h => h) ?_ ?_
   rotate_left
   ·intro W hW
    clear hW
    simp only [z0, z1]
    go_simp
    first | done | with_reducible rfl
   simp only [z0, z1, Act.put, z3, z4, z5]
   refine tk 8 (by decide) ?_ hS (by kernel_rfl) (by kernel_rfl) (by kernel_rfl) (by rfl) (fun _ _ _ h => h) ?_ ?_
   rotate_left
   ·intro W hW
    clear hW
    simp only [z0, z1]
    go_simp
    first | done | with_reducible rfl
   simp only [z0, z1, Act.put, z3, z4, z5]
   refine tk 13 (by decide) ?_ hS (by kernel_rfl) (by kernel_rfl) (by kernel_rfl) (by rfl) (fun _ _ _ h => h) ?_ ?_
   rotate_left
   ·intro W hW
    clear hW
    simp only [z0, z1]
    go_simp
    first | done | with_reducible rfl
   simp only [z0, z1, Act.put, z3, z4, z5]
   refine tk 14 (by decide) ?_ hS (by kernel_rfl) (by kernel_rfl) (by kernel_rfl) (by rfl) (fun _ _ _ h => h) ?_ ?_
   rotate_left
   ·intro W hW
    clear hW
    simp only [z0, z1]
    go_simp
    first | done | with_reducible rfl
   simp only [z0, z1, Act.put, z3, z4, z5]
   refine wpAnyH_done (by kernel_rfl) ?_ _
   have c9 := bl2 hS hbr
   clear hS hbr
   go_wp2_with fail
   go_roundg (gk - 1)
   case measure => omega
   case rel => exact ⟨k + 1, _, by omega, by go_num, rfl, by first | exact Z4.out | simpa using Z4.out, c9⟩
  ·have HF := Lib.hid (show s.size ≤ szL xs + 22 * xs.length by have := HSS.out; have := szL_take_le xs k; omega)
   go_wp2_with fail
   go_ret
   exact ⟨⟨_, rfl, HF.out⟩, hbr⟩
theorem by_info : (Tryz.prog.info? 5).map (fun i => (i.zero, i.size, i.bytes)) = some (some (.int .u8 0), 1, 1) := by kernel_rfl
def benc (n : Int) : List Value := [.int .u8 n]
theorem benc_len (n : Int) : (benc n).length = 1 := rfl
theorem benc_one (n : Int) : ∀ u ∈ benc n, u.oneCell' = true := by
 intro u hu
 simp only [benc, List.mem_cons, List.not_mem_nil, or_false] at hu
 subst hu; rfl
abbrev BV (W : World) (B : Nat) (v : Value) (l : List Int) : Prop := Sr.GV benc 1 5 W B v l
theorem app_by {ops : Array Oper} {rest : List Oper} {o : Oper} {a : Act} {Q : Exit → Act → World → Prop} {W : World} {B : Nat} {v : Value} {xs : List Int} (x : Int) (hgd : o.guard = none) (s y : Operand)
  (ho : o.op = .call { callee := .builtin .append, args := #[s, y], argTypes := #[231, 231] }) (hs : a.eval s = v) (hr : BV W B v xs)
  (hy : a.eval y = .slice (some ⟨W.heap.size, 0, none⟩) 1 1) (hl : xs.length ≤ 1000000) (hB : B ≤ W.heap.size)
  (h : ∀ v' w', BV w' B v' (xs ++ [x]) → (W.alloc (.cells #[.int .u8 x] 5)).grownBy w' v.ownBlock → (v'.ownBlock = v.ownBlock ∨ v'.ownBlock = some (W.heap.size + 1)) → wpList Tryz.prog ops Q rest (a.put o.dst v') w') :
  wpList Tryz.prog ops Q (o :: rest) a (W.alloc (.cells #[.int .u8 x] 5)) :=
 Sr.app_gv benc_len benc_one (by decide) (by decide) rfl by_info Tryz.underlying231 x hgd s y ho hs hr hy hl hB h
def EiR (w : World) (g : Nat) (s0 s3 s4 : Value) (W : World) : Prop := ∃ (k : Nat) (l : List Int), k + g = 8 ∧ s4 = .int .i64 k ∧ (∃ n : Int, s0 = .int .u64 n) ∧ BV W w.heap.size s3 l ∧ l.length = k ∧ Below w.heap.size w W
set_option maxHeartbeats 16000000 in
theorem eight08_any (n : Int) (w : World) : Calls Tryz.prog 144 #[.int .u64 n] w fun e w' => IsT 8 e ∧ Below w.heap.size w w' := by
 go_enter Tryz.func144, Tryz.ntmps144
 go_upto_region 2 with fail
 have cw : Below w.heap.size w (w.alloc (.cells #[] 5)) := Bk.be
 have kx : Bk.Blk (w.alloc (.cells #[] 5)) w.heap.size #[] 5 := Bk.Blk.nw10
 have HV0 := Lib.hid (show BV (w.alloc (.cells #[] 5)) w.heap.size (.slice (some ⟨w.heap.size, 0, none⟩) 0 0) [] from Sr.OwnR.gv benc_len (by decide) ⟨Nat.le_refl _, by unfold maxLen; omega, [], by simp, kx⟩)
 clear kx
 (try simp only [Act.put])
 generalize (w.alloc (.cells #[] 5)) = w1 at *
 go_wp2_with fail
 go_loopg [0, 3, 4] 8 (EiR w)
 case atStart => exact ⟨0, [], by omega, rfl, ⟨_, rfl⟩, HV0.out, rfl, cw⟩
 case round =>
  clear HV0 cw
  obtain ⟨k, l, hk, rfl, ⟨n, rfl⟩, hv, hll, hbr⟩ := hrel
  by_cases hlt : k < 8
  ·have HV := Lib.hid hv
   have HLL := Lib.hid hll
   have hlk : l.length ≤ 1000000 := by omega
   clear hv hll
   have hzr := hbr.size
   have hk8 : Hid (k < 8) := Lib.hid hlt
   go_wp2_with (at_builtin; refine app_by _ rfl _ _ rfl rfl HV.out rfl hlk hzr ?_)
   intro v' w4 hv' hgr hx1
   clear hx1
   have c4 : Below w.heap.size w w4 := (hbr.alloc hzr _).grown hgr (by simp; omega) (fun j hj => (HV.out.lt j hj).2)
   have HV4 := Lib.hid hv'
   clear hv' hgr hzr hbr
   go_wp2_with fail
   go_roundg (gk - 1)
   case measure => omega
   case rel => exact ⟨k + 1, _, by omega, by go_num, ⟨_, rfl⟩, HV4.out, by simp [HLL.out], c4⟩
  ·have h8 : l.length = 8 := by omega
   obtain ⟨a7, c7, rfl, hr7, -⟩ := hv.row
   obtain ⟨b, off, rfl, hc⟩ := rowat benc_len hr7 (by omega)
   have hcv : (convert 231 9 (.slice (some ⟨b, off, none⟩) l.length c7)).run Tryz.prog wr = .ok (.string (strOfNums l)) wr := run_convert_bytes_arg wr _ 5 Tryz.underlying231 Tryz.underlying5 b off l.length c7 l rfl (fun i hi => by
    rw [show off + i = off + i * 1 + 0 by omega]
    have := hc i hi 0 _ rfl
    rw [this, List.getD_eq_getElem?_getD, getElem!_pos l i hi]
    simp [hi]) _ Tryz.underlying9
   have HSZ := Lib.hid (show (strOfNums l).size ≤ 8 by rw [strOfNums_size]; omega)
   clear hv hr7 hc hll h8
   go_wp2_with fail
   go_ret
   exact ⟨⟨_, rfl, HSZ.out⟩, hbr⟩
set_option maxHeartbeats 16000000 in
theorem chain08_any (h : Int) (s : ByteArray) (w : World) (hs : s.size ≤ maxLen) : Calls Tryz.prog 110 #[.int .u64 h, .string s] w fun e w' => IsV e ∧ Below w.heap.size w w' := by
 have HS := Lib.hid hs
 clear hs
 go_enter Tryz.func110, Tryz.ntmps110
 go_wp2_with fail
 refine (eight08_any _ _).mono ?_
 rintro e w2 ⟨⟨t, rfl, ht⟩, hb⟩
 have HT := Lib.hid (show t.size ≤ maxLen by unfold maxLen; omega)
 clear ht
 go_wp2_with fail
 refine (hash08_any _ _ HT.out).mono ?_
 rintro e w' ⟨⟨n, rfl⟩, rfl⟩
 go_wp2_with fail
 refine (ext08_any _ _ _ HS.out).mono ?_
 rintro e w' ⟨⟨n2, rfl⟩, rfl⟩
 go_wp2_with fail
 go_ret
 exact ⟨⟨_, rfl⟩, hb⟩
theorem lg_neq (x y : Lg) : ∃ q : Bool, ∀ W : World, (binOp .neq 50 ((.agg #[.int .i64 (x).ac, .int .i64 (x).am, .string (x).cu])) ((.agg #[.int .i64 (y).ac, .int .i64 (y).am, .string (y).cu]))).run Tryz.prog W = .ok (.bool q) W := by
 cases h1 : (x.ac == y.ac)
 ·exact ⟨true, fun W => by go_simp⟩
 cases h2 : (x.am == y.am)
 ·exact ⟨true, fun W => by go_simp⟩
 cases h3 : (x.cu.toList == y.cu.toList)
 ·exact ⟨true, fun W => by go_simp⟩
 ·exact ⟨false, fun W => by go_simp⟩
set_option maxHeartbeats 16000000 in
theorem samelegs_any (a a' : Option Addr) (c c' : Nat) (l l' : List Lg) (w : World) (hl : l.length ≤ maxLen) (hl' : l'.length ≤ maxLen) (h : RowIn lgenc w a l) (h' : RowIn lgenc w a' l') :
  Calls Tryz.prog 109 #[.slice a l.length c, .slice a' l'.length c'] w fun e w' => IsB e ∧ Below w.heap.size w w' := by
 have H := Lib.hid h
 have H' := Lib.hid h'
 have hm : l.length ≤ 9223372036854775807 := by unfold maxLen at hl; omega
 have hm' : l'.length ≤ 9223372036854775807 := by unfold maxLen at hl'; omega
 clear hl hl' h h'
 by_cases hn : l.length = l'.length
 ·have hne : ((l.length : Int) != (l'.length : Int)) = false := by rw [hn]; simp
  have HN := Lib.hid hn
  clear hn
  go_enter Tryz.func109, Tryz.ntmps109
  go_wp2_with fail
  all_goals first
   | (go_ret; exact ⟨⟨_, rfl⟩, Below.refl _ _⟩)
   | skip
  go_loopg [5] l.length (CntB l.length w)
  case atStart => exact ⟨0, by omega, rfl, Below.refl _ _⟩
  case round =>
   clear hne
   obtain ⟨k, hk, rfl, hbr⟩ := hrel
   by_cases hlt : k < l.length
   ·have hlt' : k < l'.length := by have := HN.out; omega
    obtain ⟨b, off, rfl, hc⟩ := rowat lgenc_len H.out (by omega)
    obtain ⟨b2, off2, rfl, hc2⟩ := rowat lgenc_len H'.out (by omega)
    have hm1 := range_later hbr (hc k hlt)
    have hm2 := range_later hbr (hc2 k hlt')
    clear hc hc2
    obtain ⟨d, hd⟩ : ∃ d, d = l[k]! := ⟨_, rfl⟩
    obtain ⟨d2, hd2⟩ : ∃ d2, d2 = l'[k]! := ⟨_, rfl⟩
    rw [← hd] at hm1
    rw [← hd2] at hm2
    clear hd hd2
    obtain ⟨q, hq⟩ := lg_neq d d2
    go_upto_region 6 with fail
    have hS0 : SB wr wr.drew := (Below.refl _ _).drew
    refine wp_region_held_drew (S := SB wr) (by kernel_rfl) hS0 (fun hS => ?_)
    clear hS0
    refine tk 0 (by decide) ?_ hS (by kernel_rfl) (by kernel_rfl) (by kernel_rfl) (by rfl) (fun _ _ _ h => h) ?_ ?_
    rotate_left
    ·intro W hW
     clear hW
     simp only [z0, z1]
     go_simp
     first | done | with_reducible rfl
    simp only [z0, z1, Act.put, z3, z4, z5]
    refine tk 1 (by decide) ?_ hS (by kernel_rfl) (by kernel_rfl) (by kernel_rfl) (by rfl) (fun _ _ _ h => h) ?_ ?_
    rotate_left
    ·intro W hW
     clear hW
     simp only [z0, z1]
     go_simp
     first | done | with_reducible rfl
    simp only [z0, z1, Act.put, z3, z4, z5]
    refine tk 2 (by decide) ?_ hS (by kernel_rfl) (by kernel_rfl) (by kernel_rfl) (by rfl) (fun _ _ _ h => h) ?_ ?_
    rotate_left
    ·intro W hW
     clear hW
     simp only [z0, z1]
     go_simp
     first | done | with_reducible rfl
    simp only [z0, z1, Act.put, z3, z4, z5]
    refine take_at 3 (by decide) (by kernel_rfl) (by kernel_rfl) (by kernel_rfl) (fun _ _ _ h => h) hS (yieldsIf_load_mid (by rfl) 50 (.tmp 19) rfl _ _ rfl [.int .i64 (d).ac, .int .i64 (d).am, .string (d).cu] _ (fun W hW => range_later hW hm1) Tryz.underlying50 rfl (by kernel_rfl)) ?_
    simp only [z0, z1, Act.put, z3, z4, z5]
    refine tk 4 (by decide) ?_ hS (by kernel_rfl) (by kernel_rfl) (by kernel_rfl) (by rfl) (fun _ _ _ h => h) ?_ ?_
    rotate_left
    ·intro W hW
     clear hW
     simp only [z0, z1]
     go_simp
     first | done | with_reducible rfl
    simp only [z0, z1, Act.put, z3, z4, z5]
    refine tk 5 (by decide) ?_ hS (by kernel_rfl) (by kernel_rfl) (by kernel_rfl) (by rfl) (fun _ _ _ h => h) ?_ ?_
    rotate_left
    ·intro W hW
     clear hW
     simp only [z0, z1]
     go_simp
     first | done | with_reducible rfl
    simp only [z0, z1, Act.put, z3, z4, z5]
    refine tk 6 (by decide) ?_ hS (by kernel_rfl) (by kernel_rfl) (by kernel_rfl) (by rfl) (fun _ _ _ h => h) ?_ ?_
    rotate_left
    ·intro W hW
     clear hW
     simp only [z0, z1]
     go_simp
     first | done | with_reducible rfl
    simp only [z0, z1, Act.put, z3, z4, z5]
    refine take_at 7 (by decide) (by kernel_rfl) (by kernel_rfl) (by kernel_rfl) (fun _ _ _ h => h) hS (yieldsIf_load_mid (by rfl) 50 (.tmp 23) rfl _ _ rfl [.int .i64 (d2).ac, .int .i64 (d2).am, .string (d2).cu] _ (fun W hW => range_later hW hm2) Tryz.underlying50 rfl (by kernel_rfl)) ?_
    simp only [z0, z1, Act.put, z3, z4, z5]
    refine tk 8 (by decide) ?_ hS (by kernel_rfl) (by kernel_rfl) (by kernel_rfl) (by rfl) (fun _ _ _ h => h) ?_ ?_
    rotate_left
    ·intro W hW
     clear hW
     simp only [z0, z1]
     go_simp
     first | done | with_reducible rfl
    simp only [z0, z1, Act.put, z3, z4, z5]
    refine wpAnyH_done (by kernel_rfl) ?_ _
    have c9 := bl2 hS hbr
    clear hS hbr hm1 hm2 hq
    cases q
    ·go_wp2_with fail
     go_roundg (gk - 1)
     case measure => omega
     case rel => exact ⟨k + 1, by omega, by go_num, c9⟩
    ·go_wp2_with fail
     (go_ret; exact ⟨⟨_, rfl⟩, c9⟩)
   ·go_wp2_with fail
    (go_ret; exact ⟨⟨_, rfl⟩, hbr⟩)
 ·have hne : ((l.length : Int) != (l'.length : Int)) = true := by rw [bne_iff_ne]; omega
  clear hn
  go_enter Tryz.func109, Tryz.ntmps109
  go_wp2_with fail
  all_goals (go_ret; exact ⟨⟨_, rfl⟩, Below.refl _ _⟩)
set_option maxHeartbeats 32000000 in
theorem same19_any (a b : En) (w : World) (ha : a.lg.length ≤ maxLen) (hb : b.lg.length ≤ maxLen) (hA : RowIn lgenc w a.la a.lg) (hB : RowIn lgenc w b.la b.lg) :
  Calls Tryz.prog 76 #[(.agg #[.int .i64 (a).id, .int .i64 (a).bo, .int .i64 (a).va, .int .i64 (a).ki, .int .i64 (a).au, .int .i64 (a).pe, .string (a).ke, .string (a).tx, .slice (a).la (a).lg.length (a).lk, .int .u64 (a).ch]), (.agg #[.int .i64 (b).id, .int .i64 (b).bo, .int .i64 (b).va, .int .i64 (b).ki, .int .i64 (b).au, .int .i64 (b).pe, .string (b).ke, .string (b).tx, .slice (b).la (b).lg.length (b).lk, .int .u64 (b).ch])] w fun e w' => IsB e ∧ Below w.heap.size w w' := by
 have HSL := Lib.hid (fun (W : World) (hW : Below w.heap.size w W) => samelegs_any a.la b.la a.lk b.lk a.lg b.lg W ha hb (hA.later hW) (hB.later hW))
 clear ha hb hA hB
 have cw : Below w.heap.size w ((w.alloc (.cells #[.int .i64 (a).id, .int .i64 (a).bo, .int .i64 (a).va, .int .i64 (a).ki, .int .i64 (a).au, .int .i64 (a).pe, .string (a).ke, .string (a).tx, .slice (a).la (a).lg.length (a).lk, .int .u64 (a).ch] 39)).alloc (.cells #[.int .i64 (b).id, .int .i64 (b).bo, .int .i64 (b).va, .int .i64 (b).ki, .int .i64 (b).au, .int .i64 (b).pe, .string (b).ke, .string (b).tx, .slice (b).la (b).lg.length (b).lk, .int .u64 (b).ch] 39)) := Bk.be
 have ka : Bk.Blk ((w.alloc (.cells #[.int .i64 (a).id, .int .i64 (a).bo, .int .i64 (a).va, .int .i64 (a).ki, .int .i64 (a).au, .int .i64 (a).pe, .string (a).ke, .string (a).tx, .slice (a).la (a).lg.length (a).lk, .int .u64 (a).ch] 39)).alloc (.cells #[.int .i64 (b).id, .int .i64 (b).bo, .int .i64 (b).va, .int .i64 (b).ki, .int .i64 (b).au, .int .i64 (b).pe, .string (b).ke, .string (b).tx, .slice (b).la (b).lg.length (b).lk, .int .u64 (b).ch] 39)) w.heap.size _ 39 := Bk.Blk.nw20
 have kb : Bk.Blk ((w.alloc (.cells #[.int .i64 (a).id, .int .i64 (a).bo, .int .i64 (a).va, .int .i64 (a).ki, .int .i64 (a).au, .int .i64 (a).pe, .string (a).ke, .string (a).tx, .slice (a).la (a).lg.length (a).lk, .int .u64 (a).ch] 39)).alloc (.cells #[.int .i64 (b).id, .int .i64 (b).bo, .int .i64 (b).va, .int .i64 (b).ki, .int .i64 (b).au, .int .i64 (b).pe, .string (b).ke, .string (b).tx, .slice (b).la (b).lg.length (b).lk, .int .u64 (b).ch] 39)) (w.heap.size + 1) _ 39 := Bk.Blk.nw21
 go_enter Tryz.func76, Tryz.ntmps76
 have a0 := ka.c0
 have a1 := ka.c1
 have a2 := ka.c2
 have a3 := ka.c3
 have a4 := ka.c4
 have a5 := ka.c5
 have a6 := ka.c6
 have a7 := ka.c7
 have a8 := ka.c8
 have a9 := ka.c9
 have b0 := kb.c0
 have b1 := kb.c1
 have b2 := kb.c2
 have b3 := kb.c3
 have b4 := kb.c4
 have b5 := kb.c5
 have b6 := kb.c6
 have b7 := kb.c7
 have b8 := kb.c8
 have b9 := kb.c9
 clear ka kb
 cases qid : (a.id == b.id)
 ·go_wp2_with fail
  (go_ret; exact ⟨⟨_, rfl⟩, cw⟩)
 cases qbo : (a.bo == b.bo)
 ·go_wp2_with fail
  (go_ret; exact ⟨⟨_, rfl⟩, cw⟩)
 cases qva : (a.va == b.va)
 ·go_wp2_with fail
  (go_ret; exact ⟨⟨_, rfl⟩, cw⟩)
 cases qki : (a.ki == b.ki)
 ·go_wp2_with fail
  (go_ret; exact ⟨⟨_, rfl⟩, cw⟩)
 cases qau : (a.au == b.au)
 ·go_wp2_with fail
  (go_ret; exact ⟨⟨_, rfl⟩, cw⟩)
 cases qpe : (a.pe == b.pe)
 ·go_wp2_with fail
  (go_ret; exact ⟨⟨_, rfl⟩, cw⟩)
 cases qke : (a.ke.toList == b.ke.toList)
 ·go_wp2_with fail
  (go_ret; exact ⟨⟨_, rfl⟩, cw⟩)
 cases qtx : (a.tx.toList == b.tx.toList)
 ·go_wp2_with fail
  (go_ret; exact ⟨⟨_, rfl⟩, cw⟩)
 cases qch : (a.ch == b.ch)
 ·go_wp2_with fail
  (go_ret; exact ⟨⟨_, rfl⟩, cw⟩)
 go_wp2_with fail
 refine (HSL.out _ cw).mono ?_
 rintro r w2 ⟨⟨q, rfl⟩, hb⟩
 have c2 := bl2 hb cw
 go_wp2_with fail
 (go_ret; exact ⟨⟨_, rfl⟩, c2⟩)
def IsLe (x : Lg) (e : Ending) : Prop := ∃ n : Int, e = .returned (.int .i64 n) ∧ (n = 0 → x.cu.size = 3)
set_option maxHeartbeats 16000000 in
theorem leg19_any (x : Lg) (w : World) (hs : x.cu.size ≤ maxLen) : Calls Tryz.prog 140 #[(.agg #[.int .i64 (x).ac, .int .i64 (x).am, .string (x).cu])] w fun e w' => IsLe x e ∧ Below w.heap.size w w' := by
 have HS := Lib.hid hs
 clear hs
 have cw : Below w.heap.size w (w.alloc (.cells #[.int .i64 (x).ac, .int .i64 (x).am, .string (x).cu] 50)) := Bk.be
 have kx : Bk.Blk (w.alloc (.cells #[.int .i64 (x).ac, .int .i64 (x).am, .string (x).cu] 50)) w.heap.size _ 50 := Bk.Blk.nw10
 go_enter Tryz.func140, Tryz.ntmps140
 go_upto_region 1 with fail
 generalize (w.alloc (.cells _ 50)) = w1 at *
 have x0 := kx.c0
 have x1 := kx.c1
 have x2 := kx.c2
 go_wp2_with fail
 all_goals first
  | (go_ret; exact ⟨⟨_, rfl, fun h => absurd h (by decide)⟩, cw⟩)
  | skip
 refine (code19_any _ _ HS.out).mono ?_
 rintro e w' ⟨⟨q, rfl, hq⟩, rfl⟩
 have HQ := Lib.hid hq
 clear hq
 cases q
 ·go_wp2_with fail
  (go_ret; exact ⟨⟨_, rfl, fun h => absurd h (by decide)⟩, cw⟩)
 ·go_wp2_with fail
  (go_ret; exact ⟨⟨_, rfl, fun _ => HQ.out (by first | rfl | trivial)⟩, cw⟩)
theorem slto_mn (a : Option Addr) (n c k : Nat) (h : k ≤ c) (W : World) : (Instr.slice 109 (.slice a n c) none (some (.int .i64 k)) none).run Tryz.prog W = .ok (.slice a k c) W := by
  have h2 : ((k : Int)).toNat = k := by omega
  simp [Instr.slice, run_underlying Tryz.underlying109, Instr.sliceBounds, Instr.sliceBound, asIntOf, go_sem, h2, h]
theorem slfrom_mn (a : Option Addr) (xs : List Mn) (c k : Nat) (h : k ≤ xs.length) (hc : xs.length ≤ c) : ∃ (a2 : Option Addr) (c2 : Nat), (∀ W : World, (Instr.slice 109 (.slice a xs.length c) (some (.int .i64 k)) none none).run Tryz.prog W = .ok (.slice a2 (xs.drop k).length c2) W) ∧ ∀ W : World, RowIn mnenc W a xs → RowIn mnenc W a2 (xs.drop k) := by
  have h2 : ((k : Int)).toNat = k := by omega
  refine ⟨if c = k then a else a.map (·.add (k * 2)), c - k, fun W => ?_, fun W hr h0 => ?_⟩
  · rw [List.length_drop]
    simp [Instr.slice, run_underlying Tryz.underlying109, Instr.sliceBounds, Instr.sliceBound, asIntOf, go_sem, h2, h]
  · have h0' := h0
    rw [List.length_drop] at h0'
    obtain ⟨b, off, ha, -⟩ := hr (by omega)
    have e1 : (if c = k then a else a.map (·.add (k * 2))) = some ⟨b, off + k * 2, none⟩ := by rw [if_neg (by omega), ha, Option.map_some, Addr.add_mid]
    rw [e1]
    exact row_drop mnenc_len k (ha ▸ hr) h0
def SuR (w : World) (l : List Lg) (g : Nat) (s3 s4 : Value) (W : World) : Prop := ∃ (k : Nat) (out : List Mn), k + g = l.length ∧ s4 = .int .i64 k ∧ Sr.GV mnenc 2 112 W w.heap.size s3 out ∧ out.length ≤ k ∧ Below w.heap.size w W
def KiR (w5 : World) (n : Nat) (g : Nat) (s6 : Value) (W : World) : Prop := ∃ j : Nat, j + g = n ∧ s6 = .int .i64 j ∧ Below w5.heap.size w5 W
def IsMs (n : Nat) (B : Nat) (e : Ending) (w' : World) : Prop := ∃ (v : Value) (ms : List Mn), e = .returned v ∧ Sr.GV mnenc 2 112 w' B v ms ∧ ms.length ≤ n
set_option maxHeartbeats 64000000 in
theorem rsums19_any (a : Option Addr) (cap : Nat) (l : List Lg) (w : World) (hl : l.length ≤ 1000) (h : RowIn lgenc w a l) :
    Calls Tryz.prog 141 #[.slice a l.length cap] w fun e w' => IsMs l.length w.heap.size e w' ∧ Below w.heap.size w w' := by
  have H := Lib.hid h
  clear h
  go_enter Tryz.func141, Tryz.ntmps141
  go_wp2_with fail
  go_loopg [3, 4] l.length (SuR w l)
  case atStart => exact ⟨0, [], by omega, rfl, Sr.GV.nil _ _, Nat.le_refl _, Below.refl _ _⟩
  case round =>
    obtain ⟨k, out, hk, rfl, hv, hout, hbr⟩ := hrel
    by_cases hlt : k < l.length
    · obtain ⟨b, off, rfl, hc⟩ := rowat lgenc_len H.out (by omega)
      have hx := range_later hbr (hc k hlt)
      clear hc
      obtain ⟨x, hxx⟩ : ∃ x, x = l[k]! := ⟨_, rfl⟩
      rw [← hxx] at hx
      clear hxx
      have HX := Lib.hid hx
      obtain ⟨a3, c3, rfl, hr3, hcap3⟩ := gvs_cap hv
      have HR3 := Lib.hid hr3
      clear hx hr3 hv
      obtain ⟨gk0, rfl⟩ : ∃ y, y = gk := ⟨_, rfl⟩
      obtain ⟨w5, rfl⟩ : ∃ y, y = wr := ⟨_, rfl⟩
      go_wp2_with fail
      go_loopg [6] out.length (KiR w5 out.length)
      case atStart => exact ⟨0, by omega, rfl, Below.refl _ _⟩
      case round =>
        obtain ⟨j, hj0, rfl, hwr⟩ := hrel
        by_cases hj : j < out.length
        · obtain ⟨b3, off3, rfl, hc3⟩ := rowat mnenc_len HR3.out (by omega)
          have hm5 := hc3 j hj
          clear hc3
          obtain ⟨d, hd⟩ : ∃ d, d = out[j]! := ⟨_, rfl⟩
          rw [← hd] at hm5
          clear hd
          have HM5 := Lib.hid hm5
          have hm3 := range_later hwr hm5
          clear hm5
          have m0 : wr.cell? ⟨b3, off3 + j * 2, none⟩ = some (.string d.cu) := hm3 0 _ rfl
          have p2 : wr.cell? ⟨b, off + k * 3 + 2, none⟩ = some (.string x.cu) := range_later hwr HX.out 2 _ rfl
          have g4 : decide (j < out.length) = true := decide_eq_true hj
          have g4b : decide ((j : Int) < (out.length : Int)) = true := decide_eq_true (by omega)
          have hsl1 : ∀ W : World, (Instr.slice 109 (.slice (some ⟨b3, off3, none⟩) out.length c3) none (some (.int .i64 j)) none).run Tryz.prog W = .ok (.slice (some ⟨b3, off3, none⟩) (out.take j).length c3) W := fun W => by
            rw [show (out.take j).length = j by rw [List.length_take]; omega]
            exact slto_mn (some ⟨b3, off3, none⟩) out.length c3 j (by omega) W
          have HTS := Lib.hid (fun (W : World) (hW : Below w5.heap.size w5 W) => row_take j (HR3.out.later hW))
          have HLTS := Lib.hid (show (out.take j).length = j by rw [List.length_take]; omega)
          have hlts : (out.take j).length ≤ out.length := by rw [List.length_take]; omega
          generalize out.take j = ts at *
          obtain ⟨ads, cds, hsds, hrds⟩ := slfrom_mn (some ⟨b3, off3, none⟩) out c3 (j) (by omega) (by omega)
          have HRds := Lib.hid (fun (W : World) (hW : Below w5.heap.size w5 W) => hrds W (HR3.out.later hW))
          have HLds := Lib.hid (List.length_drop (i := j) (l := out))
          have hlds : (out.drop (j)).length ≤ out.length := by rw [List.length_drop]; omega
          clear hrds
          generalize out.drop (j) = ds at *
          obtain ⟨adt, cdt, hsdt, hrdt⟩ := slfrom_mn (some ⟨b3, off3, none⟩) out c3 (j + 1) (by omega) (by omega)
          have HRdt := Lib.hid (fun (W : World) (hW : Below w5.heap.size w5 W) => hrdt W (HR3.out.later hW))
          have HLdt := Lib.hid (List.length_drop (i := j + 1) (l := out))
          have hldt : (out.drop (j + 1)).length ≤ out.length := by rw [List.length_drop]; omega
          clear hrdt
          generalize out.drop (j + 1) = dt at *
          replace hsdt : ∀ W : World, (Instr.slice 109 (.slice (some ⟨b3, off3, none⟩) out.length c3) (some (.int .i64 ((j : Int) + 1))) none none).run Tryz.prog W = .ok (.slice adt dt.length cdt) W := hsdt
          go_upto_region 7 with fail
          refine Reg.region_quiet (by kernel_rfl) (by kernel_rfl) ?_
          iterate 17 (first | go_big_quiet_skip | (go_big_quiet_want; (first | (go_big_quiet_op; go_big_quiet_on) | (apply Reg.quiet_run; (intro W hW; (have q0 := hW.cell m0; have q1 := hW.cell p2); go_simp; (first | done | rfl | exact ⟨rfl, rfl⟩ )); (simp only [Act.put, List.setIfInBounds_toArray, List.set_cons_zero, List.set_cons_succ]; go_big_quiet_on)) | (apply Reg.quiet_call; (intro W hW; go_simp; (first | done | rfl | exact ⟨rfl, rfl⟩)); (intro W hW; (first | fail)); (simp only [Act.put, List.setIfInBounds_toArray, List.set_cons_zero, List.set_cons_succ]; go_big_quiet_on)))))
          refine wpQuiet_nil ?_
          intro w8 hW
          have e8 : Below w5.heap.size w5 w8 := bl2 hW hwr
          clear hW m0 p2 hm3
          go_wp2_with (at_builtin; refine Sr.gvs_list (B := w5.heap.size) mnenc_len mnenc_one (by decide) (by decide) rfl mn_info Tryz.underlying109 ts rfl _ _ rfl rfl (Sr.GV.nil _ _) _ _ rfl (HTS.out _ e8) (by simp; omega) e8.size ?_)
          all_goals first
            | (go_roundg (gk - 1)
               case measure => omega
               case rel => exact ⟨j + 1, by omega, by go_num, e8⟩)
            | skip
          all_goals
            intro v1 w1 hv1 c1' hx1
            clear hx1
            have d1 : Below w5.heap.size w5 w1 := (e8).trans c1'
            have f1 := bl2 d1 hbr
            have HV1 := Lib.hid hv1
            clear hv1 c1' hsl1
            have x1 : w1.cell? ⟨b, off + k * 3 + 1, none⟩ = some (.int .i64 x.am) := range_later d1 HX.out 1 _ rfl
            have x2 : w1.cell? ⟨b, off + k * 3 + 2, none⟩ = some (.string x.cu) := range_later d1 HX.out 2 _ rfl
            have HMD : w1.rangeAt b3 (off3 + j * 2) (mnenc d) := range_later d1 HM5.out
            have m0 : w1.cell? ⟨b3, off3 + j * 2, none⟩ = some (.string d.cu) := HMD 0 _ rfl
            have m1 : w1.cell? ⟨b3, off3 + j * 2 + 1, none⟩ = some (.int .i64 d.am) := HMD 1 _ rfl
            clear HMD
            go_upto_region 11 with fail
            refine Reg.region_quiet (by kernel_rfl) (by kernel_rfl) ?_
            iterate 17 (first | go_big_quiet_skip | (go_big_quiet_want; (first | (go_big_quiet_op; go_big_quiet_on) | (apply Reg.quiet_run; (intro W hW; (have q0 := hW.cell m0; have q1 := hW.cell x2); go_simp; (first | done | rfl | exact ⟨rfl, rfl⟩ )); (simp only [Act.put, List.setIfInBounds_toArray, List.set_cons_zero, List.set_cons_succ]; go_big_quiet_on)) | (apply Reg.quiet_call; (intro W hW; go_simp; (first | done | rfl | exact ⟨rfl, rfl⟩)); (intro W hW; (first | fail)); (simp only [Act.put, List.setIfInBounds_toArray, List.set_cons_zero, List.set_cons_succ]; go_big_quiet_on)))))
            refine wpQuiet_nil ?_
            intro w9 hW
            have d9 : Below w5.heap.size w5 w9 := bl2 hW d1
            have hv9 := HV1.out.later hW
            replace x2 := hW.cell x2
            replace m1 := hW.cell m1
            clear hW d1 f1 m0 x1 HV1
            have d1 := d9
            have HV1 := Lib.hid hv9
            clear d9 hv9
            have hz9 := d1.size
            go_wp2_with (at_builtin; refine Sr.app_gv (B := w5.heap.size) mnenc_len mnenc_one (by decide) (by decide) rfl mn_info Tryz.underlying109 ⟨x.cu, _⟩ rfl _ _ rfl rfl HV1.out rfl (by omega) hz9 ?_)
          · intro v2 w2 hv2 hgr hx2
            clear hx2
            have e2 : Below w5.heap.size w5 w2 := (d1.alloc d1.size _).grown hgr (by have := d1.size; simp; omega) (fun j hj => (HV1.out.lt j hj).2)
            have HV2 := Lib.hid hv2
            have d2 := e2.size
            clear hv2 hgr
            go_wp2_with (at_builtin; refine Sr.gvs_list (B := w5.heap.size) mnenc_len mnenc_one (by decide) (by decide) rfl mn_info Tryz.underlying109 dt rfl _ _ rfl rfl HV2.out _ _ rfl (HRdt.out _ e2) (by simp; omega) d2 ?_)
            intro v3 w3 hv3 c3' hx2
            clear hx2
            have e3 : Below w5.heap.size w5 w3 := e2.trans c3'
            have f3 := bl2 e3 hbr
            have HV3 := Lib.hid (gv_weaken hv3 hbr.size)
            have HLN := Lib.hid (show ts.length + 1 + dt.length ≤ k + 1 by have := HLTS.out; have := HLdt.out; omega)
            clear hv3 c3' e2 e3 d2 HV2
            go_wp2_with fail
            go_roundg (gk0 - 1)
            case measure => omega
            case rel => exact ⟨k + 1, _, by omega, by go_num, HV3.out, by have := HLN.out; simp; omega, f3⟩
          · intro v2 w2 hv2 hgr hx2
            clear hx2
            have e2 : Below w5.heap.size w5 w2 := (d1.alloc d1.size _).grown hgr (by have := d1.size; simp; omega) (fun j hj => (HV1.out.lt j hj).2)
            have HV2 := Lib.hid hv2
            have d2 := e2.size
            clear hv2 hgr
            go_wp2_with (at_builtin; refine Sr.gvs_list (B := w5.heap.size) mnenc_len mnenc_one (by decide) (by decide) rfl mn_info Tryz.underlying109 ds rfl _ _ rfl rfl HV2.out _ _ rfl (HRds.out _ e2) (by simp; omega) d2 ?_)
            intro v3 w3 hv3 c3' hx2
            clear hx2
            have e3 : Below w5.heap.size w5 w3 := e2.trans c3'
            have f3 := bl2 e3 hbr
            have HV3 := Lib.hid (gv_weaken hv3 hbr.size)
            have HLN := Lib.hid (show ts.length + 1 + ds.length ≤ k + 1 by have := HLTS.out; have := HLds.out; omega)
            clear hv3 c3' e2 e3 d2 HV2
            go_wp2_with fail
            go_roundg (gk0 - 1)
            case measure => omega
            case rel => exact ⟨k + 1, _, by omega, by go_num, HV3.out, by have := HLN.out; simp; omega, f3⟩
        · have g4 : decide (j < out.length) = false := decide_eq_false hj
          have g4b : decide ((j : Int) < (out.length : Int)) = false := decide_eq_false (by omega)
          have hsl1 : ∀ W : World, (Instr.slice 109 (.slice a3 out.length c3) none (some (.int .i64 j)) none).run Tryz.prog W = .ok (.slice a3 (out.take j).length c3) W := fun W => by
            rw [show (out.take j).length = j by rw [List.length_take]; omega]
            exact slto_mn a3 out.length c3 j (by omega) W
          have HTS := Lib.hid (fun (W : World) (hW : Below w5.heap.size w5 W) => row_take j (HR3.out.later hW))
          have HLTS := Lib.hid (show (out.take j).length = j by rw [List.length_take]; omega)
          have hlts : (out.take j).length ≤ out.length := by rw [List.length_take]; omega
          generalize out.take j = ts at *
          obtain ⟨ads, cds, hsds, hrds⟩ := slfrom_mn a3 out c3 (j) (by omega) (by omega)
          have HRds := Lib.hid (fun (W : World) (hW : Below w5.heap.size w5 W) => hrds W (HR3.out.later hW))
          have HLds := Lib.hid (List.length_drop (i := j) (l := out))
          have hlds : (out.drop (j)).length ≤ out.length := by rw [List.length_drop]; omega
          clear hrds
          generalize out.drop (j) = ds at *
          go_upto_region 7 with fail
          refine Reg.region_quiet (by kernel_rfl) (by kernel_rfl) ?_
          iterate 17 (first | go_big_quiet_skip | (go_big_quiet_want; (first | (go_big_quiet_op; go_big_quiet_on) | (apply Reg.quiet_run; (intro W hW; skip; go_simp; (first | done | rfl | exact ⟨rfl, rfl⟩ )); (simp only [Act.put, List.setIfInBounds_toArray, List.set_cons_zero, List.set_cons_succ]; go_big_quiet_on)) | (apply Reg.quiet_call; (intro W hW; go_simp; (first | done | rfl | exact ⟨rfl, rfl⟩)); (intro W hW; (first | fail)); (simp only [Act.put, List.setIfInBounds_toArray, List.set_cons_zero, List.set_cons_succ]; go_big_quiet_on)))))
          refine wpQuiet_nil ?_
          intro w8 hW
          have e8 : Below w5.heap.size w5 w8 := bl2 hW hwr
          clear hW
          go_wp2_with (at_builtin; refine Sr.gvs_list (B := w5.heap.size) mnenc_len mnenc_one (by decide) (by decide) rfl mn_info Tryz.underlying109 ts rfl _ _ rfl rfl (Sr.GV.nil _ _) _ _ rfl (HTS.out _ e8) (by simp; omega) e8.size ?_)
          intro v1 w1 hv1 c1' hx1
          clear hx1
          have d1 : Below w5.heap.size w5 w1 := (e8).trans c1'
          have f1 := bl2 d1 hbr
          have HV1 := Lib.hid hv1
          clear hv1 c1' hsl1
          have x1 : w1.cell? ⟨b, off + k * 3 + 1, none⟩ = some (.int .i64 x.am) := range_later d1 HX.out 1 _ rfl
          have x2 : w1.cell? ⟨b, off + k * 3 + 2, none⟩ = some (.string x.cu) := range_later d1 HX.out 2 _ rfl
          go_upto_region 11 with fail
          refine Reg.region_quiet (by kernel_rfl) (by kernel_rfl) ?_
          iterate 17 (first | go_big_quiet_skip | (go_big_quiet_want; (first | (go_big_quiet_op; go_big_quiet_on) | (apply Reg.quiet_run; (intro W hW; skip; go_simp; (first | done | rfl | exact ⟨rfl, rfl⟩ )); (simp only [Act.put, List.setIfInBounds_toArray, List.set_cons_zero, List.set_cons_succ]; go_big_quiet_on)) | (apply Reg.quiet_call; (intro W hW; go_simp; (first | done | rfl | exact ⟨rfl, rfl⟩)); (intro W hW; (first | fail)); (simp only [Act.put, List.setIfInBounds_toArray, List.set_cons_zero, List.set_cons_succ]; go_big_quiet_on)))))
          refine wpQuiet_nil ?_
          intro w9 hW
          have d9 : Below w5.heap.size w5 w9 := bl2 hW d1
          have hv9 := HV1.out.later hW
          replace x2 := hW.cell x2
          clear hW d1 f1 x1 HV1
          have d1 := d9
          have HV1 := Lib.hid hv9
          clear d9 hv9
          have hz9 := d1.size
          go_wp2_with (at_builtin; refine Sr.app_gv (B := w5.heap.size) mnenc_len mnenc_one (by decide) (by decide) rfl mn_info Tryz.underlying109 ⟨x.cu, _⟩ rfl _ _ rfl rfl HV1.out rfl (by omega) hz9 ?_)
          intro v2 w2 hv2 hgr hx2
          clear hx2
          have e2 : Below w5.heap.size w5 w2 := (d1.alloc d1.size _).grown hgr (by have := d1.size; simp; omega) (fun j hj => (HV1.out.lt j hj).2)
          have HV2 := Lib.hid hv2
          have d2 := e2.size
          clear hv2 hgr
          go_wp2_with (at_builtin; refine Sr.gvs_list (B := w5.heap.size) mnenc_len mnenc_one (by decide) (by decide) rfl mn_info Tryz.underlying109 ds rfl _ _ rfl rfl HV2.out _ _ rfl (HRds.out _ e2) (by simp; omega) d2 ?_)
          intro v3 w3 hv3 c3' hx2
          clear hx2
          have e3 : Below w5.heap.size w5 w3 := e2.trans c3'
          have f3 := bl2 e3 hbr
          have HV3 := Lib.hid (gv_weaken hv3 hbr.size)
          have HLN := Lib.hid (show ts.length + 1 + ds.length ≤ k + 1 by have := HLTS.out; have := HLds.out; omega)
          clear hv3 c3' e2 e3 d2 HV2
          go_wp2_with fail
          go_roundg (gk0 - 1)
          case measure => omega
          case rel => exact ⟨k + 1, _, by omega, by go_num, HV3.out, by have := HLN.out; simp; omega, f3⟩
    · have HV := Lib.hid hv
      clear hv
      go_wp2_with fail
      go_ret
      exact ⟨⟨_, out, rfl, HV.out, by omega⟩, hbr⟩
end Go.Proofs.YtjhpiclnpmdjnaaGreatDoor.Bm
