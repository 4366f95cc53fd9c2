/-
  Parts of the proof: B19, B9, B14.
-/
import Derived.Test.YtjhpiclnpmdjnaaGreatDoorQ12
import Derived.BigQuiet
import Derived.Test.YtjhpiclnpmdjnaaGreatDoorQ08
namespace Go.Proofs.YtjhpiclnpmdjnaaGreatDoor.Bm
open Go Go.RowKit
open Go.Proofs.YtjhpiclnpmdjnaaGreatDoor
open Go.Proofs.YtjhpiclnpmdjnaaGreatDoor.Kl (upto upto_yes upto_no upto_iff byt byt_get upB codeB)
set_option linter.unusedSimpArgs false
set_option linter.unusedVariables false
set_option maxRecDepth 100000

def IsB (e : Ending) : Prop := ∃ b : Bool, e = .returned (.bool b)
def CntS (n : Nat) (w : World) (g : Nat) (s : Value) (W : World) : Prop := ∃ k : Nat, k + g = n ∧ s = .int .i64 k ∧ w = W
def CntN (n : Nat) (w : World) (g : Nat) (s0 s : Value) (W : World) : Prop := ∃ k : Nat, k + g = n ∧ s = .int .i64 k ∧ (∃ h : Int, s0 = .int .i64 h ∧ 0 ≤ h ∧ h ≤ 96) ∧ w = W
set_option maxHeartbeats 4000000 in
theorem plain_any (s : ByteArray) (w : World) (hs : s.size ≤ maxLen) : Calls Tryz.prog 80 #[.string s] w fun e w' => IsB e ∧ w = w' := by
 have hm : s.size ≤ 9223372036854775807 := by unfold maxLen at hs; omega
 clear hs
 go_enter Tryz.func80, Tryz.ntmps80
 go_wp2_with fail
 go_loopg [3] s.size (CntS s.size w)
 case atStart => exact ⟨0, by omega, rfl, rfl⟩
 case round =>
  obtain ⟨i, hi, rfl, rfl⟩ := hrel
  by_cases hlt : i < s.size
  ·have hb := byt_get hlt
   have hc := (s[i]'hlt).toNat_lt
   by_cases b1 : byt s i < 48
   ·go_wp2_with fail
    go_ret
    exact ⟨⟨_, rfl⟩, rfl⟩
   ·by_cases b2 : 57 < byt s i
    ·by_cases b3 : byt s i < 65
     ·go_wp2_with fail
      go_ret
      exact ⟨⟨_, rfl⟩, rfl⟩
     ·by_cases b4 : 90 < byt s i
      ·go_wp2_with fail
       go_ret
       exact ⟨⟨_, rfl⟩, rfl⟩
      ·go_wp2_with fail
       go_roundg (gk - 1)
       case measure => omega
       case rel => exact ⟨i + 1, by omega, by go_num, rfl⟩
    ·go_wp2_with fail
     go_roundg (gk - 1)
     case measure => omega
     case rel => exact ⟨i + 1, by omega, by go_num, rfl⟩
  ·go_wp2_with fail
   go_ret
   exact ⟨⟨_, rfl⟩, rfl⟩
set_option maxHeartbeats 4000000 in
theorem rest_any (s : ByteArray) (w : World) (hs : s.size ≤ maxLen) : Calls Tryz.prog 81 #[.string s] w fun e w' => (∃ r : Int, e = .returned (.int .i64 r) ∧ 0 ≤ r ∧ r ≤ 96) ∧ w = w' := by
 have hm : s.size ≤ 9223372036854775807 := by unfold maxLen at hs; omega
 clear hs
 go_enter Tryz.func81, Tryz.ntmps81
 go_wp2_with fail
 go_loopg [3, 4] s.size (CntN s.size w)
 case atStart => exact ⟨0, by omega, rfl, ⟨0, rfl, by decide, by decide⟩, rfl⟩
 case round =>
  obtain ⟨i, hi, rfl, ⟨h, rfl, h0, h1⟩, rfl⟩ := hrel
  by_cases hlt : i < s.size
  ·have hb := byt_get hlt
   have hc := (s[i]'hlt).toNat_lt
   by_cases b2 : byt s i ≤ 57
   ·go_wp2_with fail
    go_roundg (gk - 1)
    case measure => omega
    case rel => exact ⟨i + 1, by omega, by go_num, ⟨_, rfl, by omega, by omega⟩, rfl⟩
   ·go_wp2_with fail
    go_roundg (gk - 1)
    case measure => omega
    case rel => exact ⟨i + 1, by omega, by go_num, ⟨_, rfl, by omega, by omega⟩, rfl⟩
  ·go_wp2_with fail
   go_ret
   exact ⟨⟨_, rfl, h0, h1⟩, rfl⟩
theorem cut1 (q : Int) (h0 : 0 ≤ q) (h1 : q ≤ 9) : ∃ c : ByteArray, c.size = 1 ∧ ∀ W : World, (Instr.slice 9 (.string ⟨#[48, 49, 50, 51, 52, 53, 54, 55, 56, 57]⟩) (some (.int .i64 q)) (some (.int .i64 (q + 1))) none).run Tryz.prog W = .ok (.string c) W := by
 refine ⟨(ByteArray.mk #[48, 49, 50, 51, 52, 53, 54, 55, 56, 57]).extract q.toNat (q + 1).toNat, ?_, fun W => run_slice_string W 9 _ .i64 .i64 q (q + 1) Tryz.underlying9 h0 (by omega) (by show q + 1 ≤ 10; omega)⟩
 rw [ByteArray.size_extract]
 show min (q + 1).toNat 10 - q.toNat = 1
 omega
set_option maxHeartbeats 4000000 in
theorem seal_any (s : ByteArray) (w : World) (hs : s.size ≤ 1000) : Calls Tryz.prog 46 #[.string s] w fun e w' => (∃ t : ByteArray, ∃ k : Int, e = .returned (.tuple #[.string t, .int .i64 k])) ∧ Below w.heap.size w w' := by
 have HM := Lib.hid (show s.size ≤ maxLen by unfold maxLen; omega)
 go_enter Tryz.func46, Tryz.ntmps46
 by_cases a1 : s.size < 1
 ·go_wp2_with fail
  go_ret2
  exact ⟨⟨_, _, rfl⟩, Below.refl _ _⟩
 ·by_cases a2 : 46 < s.size
  ·go_wp2_with fail
   go_ret2
   exact ⟨⟨_, _, rfl⟩, Below.refl _ _⟩
  ·go_wp2_with fail
   refine (plain_any s _ HM.out).mono ?_
   rintro e w' ⟨⟨b, rfl⟩, rfl⟩
   cases b
   ·go_wp2_with fail
    go_ret2
    exact ⟨⟨_, _, rfl⟩, Below.refl _ _⟩
   ·go_wp2_with fail
    refine (rest_any _ _ (by rw [ByteArray.size_append]; show s.size + 2 ≤ maxLen; unfold maxLen; omega)).mono ?_
    rintro e w' ⟨⟨r, rfl, r0, r1⟩, rfl⟩
    obtain ⟨k, hk⟩ : ∃ k, k = 98 - r := ⟨_, rfl⟩
    have k0 : 0 ≤ k := by omega
    have k1 : k ≤ 98 := by omega
    obtain ⟨c1, z1', h1'⟩ := cut1 (k / 10) (by omega) (by omega)
    obtain ⟨c2, z2', h2'⟩ := cut1 (k % 10) (by omega) (by omega)
    have hsz : (s ++ c1).size ≤ 9223372036854775807 := by rw [ByteArray.size_append]; omega
    have hsz2 : ((s ++ c1) ++ c2).size ≤ 9223372036854775807 := by rw [ByteArray.size_append, ByteArray.size_append]; omega
    go_upto_region 6 with fail
    rw [← hk]
    clear hk r0 r1
    go_quiet (fail)
    (try simp only [Exit.inBlock, Exit.then])
    go_wp2_with fail
    go_ret2
    exact ⟨⟨_, _, rfl⟩, ⟨rfl, rfl, rfl, Nat.le_refl _, fun _ _ => rfl⟩⟩
def NuR (w : World) (g : Nat) (s0 s3 s4 : Value) (W : World) : Prop := ∃ k : Nat, k + g = 8 ∧ s4 = .int .i64 k ∧ (∃ id : Int, s0 = .int .i64 id ∧ 0 ≤ id ∧ id ≤ 99999999) ∧ (∃ s : ByteArray, s3 = .string s ∧ s.size = k) ∧ w = W
set_option maxHeartbeats 4000000 in
theorem number_any (id : Int) (w : World) (hi0 : 1000 ≤ id) (hi1 : id ≤ 99999999) : Calls Tryz.prog 21 #[.int .i64 id] w fun e w' => (∃ t : ByteArray, e = .returned (.string t)) ∧ Below w.heap.size w w' := by
 go_enter Tryz.func21, Tryz.ntmps21
 go_wp2_with fail
 go_loopg [0, 3, 4] 8 (NuR w)
 case atStart => exact ⟨0, by omega, rfl, ⟨id, rfl, by omega, by omega⟩, ⟨_, rfl, rfl⟩, rfl⟩
 case round =>
  clear hi0 hi1
  obtain ⟨k, hk, rfl, ⟨id, rfl, i0, i1⟩, ⟨s, rfl, hs⟩, rfl⟩ := hrel
  by_cases hlt : k < 8
  ·obtain ⟨c, zc, hc⟩ := cut1 (id % 10) (by omega) (by omega)
   have hz : (c ++ s).size = k + 1 := by rw [ByteArray.size_append]; omega
   have hsz : (c ++ s).size ≤ 9223372036854775807 := by omega
   go_wp2_with fail
   go_roundg (gk - 1)
   case measure => omega
   case rel => exact ⟨k + 1, by omega, by go_num, ⟨_, rfl, by omega, by omega⟩, ⟨_, rfl, hz⟩, rfl⟩
  ·have hsz : (ByteArray.mk #[67, 66] ++ s).size ≤ 1000 := by rw [ByteArray.size_append]; show 2 + s.size ≤ 1000; omega
   have hsz2 : (ByteArray.mk #[67, 66] ++ s).size ≤ 9223372036854775807 := by omega
   go_wp2_with fail
   refine (seal_any _ _ hsz).mono ?_
   rintro e w' ⟨⟨t, ek, rfl⟩, hb⟩
   go_wp2_with fail
   go_ret
   exact ⟨⟨_, rfl⟩, hb⟩
end Go.Proofs.YtjhpiclnpmdjnaaGreatDoor.Bm
namespace Go.Proofs.YtjhpiclnpmdjnaaGreatDoor.Bm
open Go Go.RowKit
open Go.Proofs.YtjhpiclnpmdjnaaGreatDoor
open Go.Proofs.YtjhpiclnpmdjnaaGreatDoor.Ln (flat flat_len flat_get flat_mem RowIn OwnR Idx bl2 results2_cell Blk_setRow_same Blk_setRow_ne Below_setRow take_at one_at call_wp value_wp SB tk ts z0 z1 z2 z3 z4 z5)
open Go.Proofs.YtjhpiclnpmdjnaaGreatDoor.Sr (GV)
set_option linter.unusedSimpArgs false
set_option linter.unusedVariables false
set_option maxRecDepth 100000

def PredL (g : Nat) (lb : Array Value) (p : Lg → Bool) (B : Nat) (w : World) : Prop := ∀ (d : Lg) (W : World), Below B w W → Calls Tryz.prog g (#[(.agg #[.int .i64 (d).ac, .int .i64 (d).am, .string (d).cu])] ++ lb) W fun e w' => e = .returned (.bool (p d)) ∧ Below W.heap.size W w'
set_option maxHeartbeats 4000000 in
theorem ixL_any (g : Nat) (lb : Array Value) (p : Lg → Bool) (a : Option Addr) (cap : Nat) (cs : List Lg) (w : World) (hn : cs.length ≤ 100000) (h : RowIn lgenc w a cs) (eg : ∀ args w, (callFunc g args).run Tryz.prog w = .ok (.enter g args) w) (hp : PredL g lb p w.heap.size w) :
  Calls Tryz.prog 123 #[.slice a cs.length cap, .func (.func g) #[] lb] w fun e w' => ∃ r, e = .returned (.int .i64 r) ∧ Idx p cs r ∧ Below w.heap.size w w' := by
 have H := Lib.hid h
 have HP := Lib.hid hp
 clear h hp
 go_enter Tryz.func123, Tryz.ntmps123
 go_wp2_with fail
 go_loopg [8] cs.length (SR1 w cs.length (fun k => ∀ j, j < k → p cs[j]! = false))
 case atStart => exact ⟨0, by omega, rfl, fun j hj => by omega, Below.refl _ _⟩
 case round =>
  obtain ⟨k, hk, rfl, hall, hbr⟩ := hrel
  have HA := Lib.hid hall
  clear hall
  by_cases hlt : k < cs.length
  ·obtain ⟨b, off, rfl, hc⟩ := rowat lgenc_len H.out (by omega)
   have hm := range_later hbr (hc k hlt)
   have hcall := HP.out cs[k]! wr hbr
   generalize hd : cs[k]! = d at *
   have HD := Lib.hid hd
   clear hc hd
   cases hv : p d
   ·rw [hv] at hcall
    have HV := Lib.hid hv
    clear hv
    go_wp2_with (refine wpList_load_mid rfl 50 _ rfl b (off + k * 3) (by first | rfl | simp) (lgenc d) _ hm Tryz.underlying50 rfl (by kernel_rfl) ?_)
    clear hm
    refine hcall.mono ?_
    rintro e w1 ⟨rfl, hb⟩
    go_wp2_with fail
    go_roundg (gk - 1)
    case measure => omega
    case rel => exact ⟨k + 1, by omega, by go_num, fun j hj => by
     by_cases e : j = k
     ·subst e; rw [HD.out]; exact HV.out
     ·exact HA.out j (by omega), bl2 hb hbr⟩
   ·rw [hv] at hcall
    have HV := Lib.hid hv
    clear hv
    go_wp2_with (refine wpList_load_mid rfl 50 _ rfl b (off + k * 3) (by first | rfl | simp) (lgenc d) _ hm Tryz.underlying50 rfl (by kernel_rfl) ?_)
    clear hm
    refine hcall.mono ?_
    rintro e w1 ⟨rfl, hb⟩
    go_wp2_with fail
    go_ret
    exact ⟨k, rfl, .inr ⟨k, hlt, rfl, by rw [HD.out]; exact HV.out, HA.out⟩, bl2 hb hbr⟩
  ·go_wp2_with fail
   go_ret
   exact ⟨-1, rfl, .inl ⟨rfl, fun j hj => HA.out j (by omega)⟩, hbr⟩
theorem cmpc_any (y : Lg) (B : Nat) (w : World) : CmpL 121 #[] y (fun d => cmpL d y) B w := by
 intro d W hW
 exact compare_any d y W
theorem cmpL_lt {d x : Lg} (h : d.ac < x.ac) : cmpL d x = -1 := by
 unfold cmpL cmpI orV
 rw [if_pos h]
 rfl
theorem gv_cap {α : Type} {enc : α → List Value} {k : Nat} {T : TypeId} {W : World} {B : Nat} {a : Option Addr} {n c : Nat} {xs : List α} (h : GV enc k T W B (.slice a n c) xs) : n = xs.length ∧ xs.length ≤ c := by
 obtain ⟨⟨hl, ho⟩, a', c', e⟩ := h
 have e1 := Value.slice.inj e
 rcases ho with ⟨e2, h2⟩ | ⟨g, cap, cur, e2, _, _, hc, _⟩
 ·have e3 := Value.slice.inj e2
  have : n = 0 := e3.2.1
  exact ⟨e1.2.1, by omega⟩
 ·have e3 := Value.slice.inj e2
  have := e3.2.2
  exact ⟨e1.2.1, by omega⟩
def ColR (w : World) (l : List Lg) (g : Nat) (s0 s11 : Value) (W : World) : Prop := ∃ (k : Nat) (a : Option Addr) (c : Nat), k + g = l.length ∧ s11 = .int .i64 k ∧ s0 = .slice a k c ∧ GV lgenc 3 50 W w.heap.size (.slice a k c) (l.take k) ∧ (0 < k → ∃ g, a = some ⟨g, 0, none⟩) ∧ Below w.heap.size w W
set_option maxHeartbeats 8000000 in
theorem collect1_any (a : Option Addr) (cap : Nat) (l : List Lg) (w : World) (h : RowIn lgenc w a l) (h0 : 0 < l.length) (hn : l.length ≤ 100000) (hasc : ∀ i j, i < j → j < l.length → l[i]!.ac < l[j]!.ac) :
  Calls Tryz.prog 91 #[.slice none 0 0, .slice a l.length cap] w fun e w' => ∃ g c, e = .returned (.slice (some ⟨g, 0, none⟩) l.length c) ∧ OwnR lgenc 3 50 w' w.heap.size g c l ∧ Below w.heap.size w w' := by
 have HL := Lib.hid h
 have HS := Lib.hid hasc
 have H0 := Lib.hid h0
 clear h hasc
 go_enter Tryz.func91, Tryz.ntmps91
 go_wp2_with fail
 go_loopg [0, 11] l.length (ColR w l)
 case atStart => exact ⟨0, none, 0, by omega, rfl, rfl, GV.nil _ _, fun h => absurd h (Nat.lt_irrefl _), Below.refl _ _⟩
 case round =>
  obtain ⟨k, a3, c3, hk, rfl, rfl, hgv, hsome, hbr⟩ := hrel
  have HO := Lib.hid hsome
  clear hsome
  by_cases hlt : k < l.length
  ·obtain ⟨b, off, rfl, hc⟩ := rowat lgenc_len HL.out (by omega)
   have hm := range_later hbr (hc k hlt)
   clear hc
   have htl : (l.take k).length = k := by rw [List.length_take]; omega
   have hgt : ∀ t, t < k → (l.take k)[t]! = l[t]! := fun t ht => by
    rw [getElem!_pos (l.take k) t (by omega), getElem!_pos l t (by omega), List.getElem_take]
   have hall : ∀ t, t < k → cmpL (l.take k)[t]! l[k]! < 0 := fun t ht => by
    rw [hgt t ht, cmpL_lt (HS.out t k ht hlt)]; decide
   have htk : l.take k ++ [l[k]!] = l.take (k + 1) := (Ln.take_succ' hlt).symm
   obtain ⟨x, hxx⟩ : ∃ x, x = l[k]! := ⟨_, rfl⟩
   rw [← hxx] at hm hall htk
   have HALL := Lib.hid hall
   have HT := Lib.hid (And.intro htl htk)
   clear hxx hall htl hgt htk
   have cx : Below wr.heap.size wr (wr.alloc (.cells #[.int .i64 (x).ac, .int .i64 (x).am, .string (x).cu] 50)) := Bk.be
   have kx : Bk.Blk (wr.alloc (.cells #[.int .i64 (x).ac, .int .i64 (x).am, .string (x).cu] 50)) wr.heap.size _ 50 := Bk.Blk.nw10
   have c2 := bl2 cx hbr
   have hgv2 := hgv.later cx
   go_upto_region 4 with ((refine wpList_load_mid rfl 50 _ rfl _ (off + k * 3) (by first | rfl | simp) ([.int .i64 (x).ac, .int .i64 (x).am, .string (x).cu]) _ (hm) Tryz.underlying50 rfl (by kernel_rfl) ?_))
   clear hm hbr hgv cx
   generalize wr.alloc (.cells _ 50) = w2 at *
   generalize wr.heap.size = g2 at *
   obtain ⟨a4, c4, e4, hrow, _⟩ := hgv2.row
   have hrow' : RowIn lgenc w2 a3 (l.take k) := by
    have := Value.slice.inj e4
    rw [this.1]; exact hrow
   have HROW := Lib.hid hrow'
   have HGV := Lib.hid hgv2
   clear e4 hrow hrow' hgv2
   go_wp2_with ((refine wpList_load_row rfl 50 _ rfl _ rfl _ _ _ _ (kx) Tryz.underlying50 rfl (by kernel_rfl) ?_))
   refine (show Calls Tryz.prog 120 #[.slice a3 k c3, (.agg #[.int .i64 (x).ac, .int .i64 (x).am, .string (x).cu]), .func (.func 121) #[] #[]] w2 _ from HT.out.1 ▸ bsL_any 121 #[] x (fun d => cmpL d x) a3 c3 (l.take k) w2 (by rw [HT.out.1]; omega) HROW.out (enters_of Tryz.func121 (by kernel_rfl) rfl) (cmpc_any _ _ _) (fun p q hp hq _ => HALL.out p (by rw [HT.out.1] at hq; omega))).mono ?_
   rintro e w3 ⟨i, rfl, hi, hb⟩
   obtain rfl : i = k := by
    have h1 := hi.1
    rw [HT.out.1] at h1
    apply Classical.byContradiction
    intro hne
    have h2 : 0 ≤ cmpL (l.take k)[i]! x := hi.2.2 i (Nat.le_refl _) (by rw [HT.out.1]; omega)
    have h3 := HALL.out i (by omega)
    omega
   rw [show BsF (fun d => cmpL d x) (l.take i) i = false by unfold BsF; rw [decide_eq_false (by rw [HT.out.1]; omega)]; rfl]
   have c3' := bl2 hb c2
   have z3 := Below.size c3'
   replace kx := kx.later hb
   have hgv3 := HGV.out.later hb
   have hcap := (gv_cap hgv3).2
   rw [HT.out.1] at hcap
   have HGV3 := Lib.hid hgv3
   clear hi hb c2 hgv3
   go_wp2_with ((refine wpList_load_row rfl 50 _ rfl _ rfl _ _ _ _ (kx) Tryz.underlying50 rfl (by kernel_rfl) ?_))
   refine (show Calls Tryz.prog 122 #[.slice a3 i c3, .int .i64 (i : Int), .slice (some ⟨w3.heap.size, 0, none⟩) 1 1] (w3.alloc (.cells #[.int .i64 (x).ac, .int .i64 (x).am, .string (x).cu] 50)) _ from (by
    have h := insL_end a3 c3 (l.take i) x w3.heap.size w.heap.size (w3.alloc (.cells #[.int .i64 (x).ac, .int .i64 (x).am, .string (x).cu] 50)) (by rw [HT.out.1]; exact HGV3.out.later ((Below.refl _ _).alloc (Nat.le_refl _) _)) Bk.Blk.nw10 (by rw [HT.out.1]; omega) (by rw [HT.out.1]; exact hcap) (by simp; omega)
    rw [HT.out.1] at h
    exact h)).mono ?_
   rintro e w4 ⟨g4, c4, rfl, hg4, hb4, _, _⟩
   have c5 : Below w.heap.size w w4 := (c3'.alloc z3 _).trans hb4
   have HG4 := Lib.hid hg4
   clear hg4 hb4 c3'
   go_wp2_with fail
   go_roundg (gk - 1)
   case measure => omega
   case rel => exact ⟨i + 1, some ⟨g4, 0, none⟩, c4, by omega, by go_num, rfl, by rw [← HT.out.2]; exact HG4.out, fun _ => ⟨g4, rfl⟩, c5⟩
  ·obtain rfl : k = l.length := by omega
   obtain ⟨g3, rfl⟩ := HO.out H0.out
   have HQ := Lib.hid hgv
   clear hgv
   go_wp2_with fail
   go_ret
   exact ⟨g3, c3, rfl, by have := gv_own HQ.out; rw [List.take_length] at this; exact this, hbr⟩
theorem net1_any (B : Nat) (w : World) : PredL 93 #[] (fun d => d.am == 0) B w := by
 intro d W hW
 show Calls Tryz.prog 93 #[(.agg #[.int .i64 (d).ac, .int .i64 (d).am, .string (d).cu])] W _
 go_enter Tryz.func93, Tryz.ntmps93
 go_wp2_with fail
 go_ret
 exact ⟨by first | rfl | simp, (Below.refl _ _).alloc (Nat.le_refl _) _⟩
set_option maxHeartbeats 4000000 in
theorem del0_any (g : Nat) (lb : Array Value) (p : Lg → Bool) (a : Option Addr) (cap : Nat) (cs : List Lg) (w : World) (hn : cs.length ≤ 100000) (h : RowIn lgenc w a cs) (eg : ∀ args w, (callFunc g args).run Tryz.prog w = .ok (.enter g args) w) (hp : PredL g lb p w.heap.size w) (hno : ∀ j, j < cs.length → p cs[j]! = false) :
  Calls Tryz.prog 92 #[.slice a cs.length cap, .func (.func g) #[] lb] w fun e w' => e = .returned (.slice a cs.length cap) ∧ Below w.heap.size w w' := by
 have H := Lib.hid (ixL_any g lb p a cap cs w hn h eg hp)
 have HN := Lib.hid hno
 clear h eg hp hno
 go_enter Tryz.func92, Tryz.ntmps92
 go_wp2_with fail
 refine H.out.mono ?_
 rintro e w1 ⟨r, rfl, hx, hb⟩
 obtain rfl : r = -1 := by
  rcases hx with ⟨h, _⟩ | ⟨k, hk, _, h1, _⟩
  ·exact h
  ·have := HN.out k hk; rw [this] at h1; cases h1
 clear hx
 go_wp2_with fail
 go_ret
 exact ⟨rfl, hb⟩
set_option maxHeartbeats 4000000 in
theorem net_any (a : Option Addr) (cap : Nat) (l : List Lg) (w : World) (h : RowIn lgenc w a l) (h0 : 0 < l.length) (hn : l.length ≤ 100000) (hasc : ∀ i j, i < j → j < l.length → l[i]!.ac < l[j]!.ac) (hno : ∀ j, j < l.length → (l[j]!.am == 0) = false) :
  Calls Tryz.prog 56 #[.slice a l.length cap] w fun e w' => ∃ g c, e = .returned (.slice (some ⟨g, 0, none⟩) l.length c) ∧ OwnR lgenc 3 50 w' w.heap.size g c l ∧ Below w.heap.size w w' := by
 have H := Lib.hid (collect1_any a cap l w h h0 hn hasc)
 have HN := Lib.hid hno
 clear h hasc hno
 go_enter Tryz.func56, Tryz.ntmps56
 go_wp2_with fail
 refine H.out.mono ?_
 rintro e w1 ⟨g, c, rfl, ho, hb⟩
 have HO := Lib.hid ho
 have c1 := hb
 clear ho hb
 go_wp2_with fail
 refine (del0_any 93 #[] (fun d => d.am == 0) (some ⟨g, 0, none⟩) c l w1 hn HO.out.row (enters_of Tryz.func93 (by kernel_rfl) rfl) (net1_any _ _) HN.out).mono ?_
 rintro e w2 ⟨rfl, hb⟩
 have c2 := bl2 hb c1
 have HO2 := Lib.hid (HO.out.later hb)
 clear hb c1
 go_wp2_with fail
 go_ret
 exact ⟨g, c, rfl, HO2.out, c2⟩
end Go.Proofs.YtjhpiclnpmdjnaaGreatDoor.Bm
namespace Go.Proofs.YtjhpiclnpmdjnaaGreatDoor.Bm
open Go Go.RowKit
open Go.Proofs.YtjhpiclnpmdjnaaGreatDoor
open Go.Proofs.YtjhpiclnpmdjnaaGreatDoor.Ln (flat flat_len flat_get flat_mem RowIn OwnR Idx bl2 results2_cell Blk_setRow_same Blk_setRow_ne Below_setRow)
set_option linter.unusedSimpArgs false
set_option linter.unusedVariables false
set_option maxRecDepth 100000

def NoR2 (w : World) (g : Nat) (s7 s : Value) (W : World) : Prop := s7 = .slice none 0 0 ∧ s = .int .i64 0 ∧ g = 0 ∧ W = w
def NoR (w : World) (g : Nat) (s : Value) (W : World) : Prop := s = .int .i64 0 ∧ g = 0 ∧ W = w
set_option maxHeartbeats 2000000 in
theorem ixB0 (f : Value) (w : World) : Calls Tryz.prog 126 #[.slice none 0 0, f] w fun e w' => e = .returned (.int .i64 (-1)) ∧ w = w' := by
 go_enter Tryz.func126, Tryz.ntmps126
 go_wp2_with fail
 go_loopg [8] 0 (NoR w)
 case atStart => exact ⟨rfl, rfl, rfl⟩
 case round =>
  obtain ⟨rfl, _, rfl⟩ := hrel
  go_wp2_with fail
  go_ret
  exact ⟨rfl, rfl⟩
theorem ctB0 (f : Value) (w : World) : Calls Tryz.prog 95 #[.slice none 0 0, f] w fun e w' => e = .returned (.bool false) ∧ w = w' := by
 go_enter Tryz.func95, Tryz.ntmps95
 go_wp2_with fail
 refine (ixB0 _ _).mono ?_
 rintro e w' ⟨rfl, rfl⟩
 go_wp2_with fail
 go_ret
 exact ⟨rfl, rfl⟩
set_option maxHeartbeats 2000000 in
theorem actB0 (a o : Int) (w : World) : Calls Tryz.prog 96 #[.slice none 0 0, .int .i64 a, .int .i64 o] w fun e w' => e = .returned (.slice none 0 0) ∧ w = w' := by
 go_enter Tryz.func96, Tryz.ntmps96
 go_wp2_with fail
 go_loopg [7, 12] 0 (NoR2 w)
 case atStart => exact ⟨rfl, rfl, rfl, rfl⟩
 case round =>
  obtain ⟨rfl, rfl, _, rfl⟩ := hrel
  go_wp2_with fail
  go_ret
  exact ⟨rfl, rfl⟩
theorem denies0 (a o m : Int) (w : World) : Calls Tryz.prog 59 #[.slice none 0 0, .int .i64 a, .int .i64 o, .int .i64 m] w fun e w' => e = .returned (.bool false) ∧ Below w.heap.size w w' := by
 go_enter Tryz.func59, Tryz.ntmps59
 go_wp2_with fail
 refine (actB0 _ _ _).mono ?_
 rintro e w' ⟨rfl, rfl⟩
 go_wp2_with fail
 refine (ctB0 _ _).mono ?_
 rintro e w' ⟨rfl, rfl⟩
 go_wp2_with fail
 go_ret
 exact ⟨rfl, (Below.refl _ _).alloc (Nat.le_refl _) _⟩
def AlR (w : World) (B : Bo) (e0 : En) (g1 c1 : Nat) (g : Nat) (s : Value) (W : World) : Prop := ∃ k : Nat, k + g = e0.lg.length ∧ s = .int .i64 k ∧ Bk.Blk W w.heap.size #[.slice (B).ua (B).us.length (B).uk, .slice (B).ka (B).kn (B).kk, .slice (B).ga (B).gs.length (B).gk, .int .i64 ((B).pl).p0, .int .i64 ((B).pl).p1, .int .i64 ((B).pl).p2, .int .i64 ((B).pl).p3, .int .i64 ((B).pl).p4, .int .i64 ((B).pl).p5, .int .i64 ((B).pl).p6, .int .i64 ((B).pl).p7, .int .i64 ((B).pl).p8, .int .i64 ((B).pl).p9, .int .i64 ((B).pl).p10, .int .i64 ((B).pl).p11, .int .i64 ((B).pl).p12, .int .i64 ((B).pl).p13, .slice (B).pa (B).ps.length (B).pk, .slice (B).aa (B).as.length (B).ak, .slice (B).ja (B).js.length (B).jk, .slice (B).ha (B).hn (B).hk, .slice (B).ba (B).bn (B).bk] 33 ∧ Bk.Blk W (w.heap.size + 1) #[.int .i64 (e0).id, .int .i64 (e0).bo, .int .i64 (e0).va, .int .i64 (e0).ki, .int .i64 (e0).au, .int .i64 (e0).pe, .string (e0).ke, .string (e0).tx, .slice (e0).la (e0).lg.length (e0).lk, .int .u64 (e0).ch] 39 ∧ OwnR lgenc 3 50 W w.heap.size g1 c1 e0.lg ∧ Below w.heap.size w W
structure AlG (B : Bo) (e : En) : Prop where
 b : B.ba = none ∧ B.bn = 0 ∧ B.bk = 0
 au : e.au = 0
 n : 0 < e.lg.length ∧ e.lg.length ≤ 100000
 asc : ∀ i j, i < j → j < e.lg.length → e.lg[i]!.ac < e.lg[j]!.ac
 nz : ∀ j, j < e.lg.length → (e.lg[j]!.am == 0) = false
 ok : ∀ j, j < e.lg.length → e.lg[j]!.ac < 1000 ∨ (1000 ≤ e.lg[j]!.ac ∧ aO B e.lg[j]!.ac = true ∧ actB B e.lg[j]!.ac e.bo = true ∧ e.lg[j]!.am < 0)
set_option maxHeartbeats 16000000 in
theorem allowed_ok (B : Bo) (e0 : En) (w : World) (h : BoIn w B) (hl : RowIn lgenc w e0.la e0.lg) (hg : AlG B e0) :
  Calls Tryz.prog 26 #[(.agg #[.slice (B).ua (B).us.length (B).uk, .slice (B).ka (B).kn (B).kk, .slice (B).ga (B).gs.length (B).gk, .int .i64 ((B).pl).p0, .int .i64 ((B).pl).p1, .int .i64 ((B).pl).p2, .int .i64 ((B).pl).p3, .int .i64 ((B).pl).p4, .int .i64 ((B).pl).p5, .int .i64 ((B).pl).p6, .int .i64 ((B).pl).p7, .int .i64 ((B).pl).p8, .int .i64 ((B).pl).p9, .int .i64 ((B).pl).p10, .int .i64 ((B).pl).p11, .int .i64 ((B).pl).p12, .int .i64 ((B).pl).p13, .slice (B).pa (B).ps.length (B).pk, .slice (B).aa (B).as.length (B).ak, .slice (B).ja (B).js.length (B).jk, .slice (B).ha (B).hn (B).hk, .slice (B).ba (B).bn (B).bk]), (.agg #[.int .i64 (e0).id, .int .i64 (e0).bo, .int .i64 (e0).va, .int .i64 (e0).ki, .int .i64 (e0).au, .int .i64 (e0).pe, .string (e0).ke, .string (e0).tx, .slice (e0).la (e0).lg.length (e0).lk, .int .u64 (e0).ch])] w fun e w' => e = .returned (.int .i64 0) ∧ Below w.heap.size w w' := by
 have cw : Below w.heap.size w ((w.alloc (.cells #[.slice (B).ua (B).us.length (B).uk, .slice (B).ka (B).kn (B).kk, .slice (B).ga (B).gs.length (B).gk, .int .i64 ((B).pl).p0, .int .i64 ((B).pl).p1, .int .i64 ((B).pl).p2, .int .i64 ((B).pl).p3, .int .i64 ((B).pl).p4, .int .i64 ((B).pl).p5, .int .i64 ((B).pl).p6, .int .i64 ((B).pl).p7, .int .i64 ((B).pl).p8, .int .i64 ((B).pl).p9, .int .i64 ((B).pl).p10, .int .i64 ((B).pl).p11, .int .i64 ((B).pl).p12, .int .i64 ((B).pl).p13, .slice (B).pa (B).ps.length (B).pk, .slice (B).aa (B).as.length (B).ak, .slice (B).ja (B).js.length (B).jk, .slice (B).ha (B).hn (B).hk, .slice (B).ba (B).bn (B).bk] 33)).alloc (.cells #[.int .i64 (e0).id, .int .i64 (e0).bo, .int .i64 (e0).va, .int .i64 (e0).ki, .int .i64 (e0).au, .int .i64 (e0).pe, .string (e0).ke, .string (e0).tx, .slice (e0).la (e0).lg.length (e0).lk, .int .u64 (e0).ch] 39)) := Bk.be
 have kb : Bk.Blk ((w.alloc (.cells #[.slice (B).ua (B).us.length (B).uk, .slice (B).ka (B).kn (B).kk, .slice (B).ga (B).gs.length (B).gk, .int .i64 ((B).pl).p0, .int .i64 ((B).pl).p1, .int .i64 ((B).pl).p2, .int .i64 ((B).pl).p3, .int .i64 ((B).pl).p4, .int .i64 ((B).pl).p5, .int .i64 ((B).pl).p6, .int .i64 ((B).pl).p7, .int .i64 ((B).pl).p8, .int .i64 ((B).pl).p9, .int .i64 ((B).pl).p10, .int .i64 ((B).pl).p11, .int .i64 ((B).pl).p12, .int .i64 ((B).pl).p13, .slice (B).pa (B).ps.length (B).pk, .slice (B).aa (B).as.length (B).ak, .slice (B).ja (B).js.length (B).jk, .slice (B).ha (B).hn (B).hk, .slice (B).ba (B).bn (B).bk] 33)).alloc (.cells #[.int .i64 (e0).id, .int .i64 (e0).bo, .int .i64 (e0).va, .int .i64 (e0).ki, .int .i64 (e0).au, .int .i64 (e0).pe, .string (e0).ke, .string (e0).tx, .slice (e0).la (e0).lg.length (e0).lk, .int .u64 (e0).ch] 39)) w.heap.size _ 33 := Bk.Blk.nw20
 have ke : Bk.Blk ((w.alloc (.cells #[.slice (B).ua (B).us.length (B).uk, .slice (B).ka (B).kn (B).kk, .slice (B).ga (B).gs.length (B).gk, .int .i64 ((B).pl).p0, .int .i64 ((B).pl).p1, .int .i64 ((B).pl).p2, .int .i64 ((B).pl).p3, .int .i64 ((B).pl).p4, .int .i64 ((B).pl).p5, .int .i64 ((B).pl).p6, .int .i64 ((B).pl).p7, .int .i64 ((B).pl).p8, .int .i64 ((B).pl).p9, .int .i64 ((B).pl).p10, .int .i64 ((B).pl).p11, .int .i64 ((B).pl).p12, .int .i64 ((B).pl).p13, .slice (B).pa (B).ps.length (B).pk, .slice (B).aa (B).as.length (B).ak, .slice (B).ja (B).js.length (B).jk, .slice (B).ha (B).hn (B).hk, .slice (B).ba (B).bn (B).bk] 33)).alloc (.cells #[.int .i64 (e0).id, .int .i64 (e0).bo, .int .i64 (e0).va, .int .i64 (e0).ki, .int .i64 (e0).au, .int .i64 (e0).pe, .string (e0).ke, .string (e0).tx, .slice (e0).la (e0).lg.length (e0).lk, .int .u64 (e0).ch] 39)) (w.heap.size + 1) _ 39 := Bk.Blk.nw21
 have HR := Lib.hid (fun (W : World) (hW : Below w.heap.size w W) => h.later hW)
 have HL := Lib.hid (fun (W : World) (hW : Below w.heap.size w W) => hl.later hW)
 have HG := Lib.hid hg
 have HN := Lib.hid h.n
 have hnl := hg.n.2
 have b1 : (e0.au != 0) = false := by rw [hg.au]; rfl
 clear h hl hg
 go_enter Tryz.func26, Tryz.ntmps26
 go_upto_region 1 with fail
 generalize ((w.alloc (.cells _ 33)).alloc (.cells _ 39)) = w1 at *
 have e4 := ke.c4
 have e8 := ke.c8
 go_wp2_with fail
 refine (net_any e0.la e0.lk e0.lg w1 (HL.out _ cw) HG.out.n.1 HG.out.n.2 HG.out.asc HG.out.nz).mono ?_
 rintro e w2 ⟨g1, c1, rfl, ho, hb⟩
 have c2 := bl2 hb cw
 replace kb := kb.later hb
 replace ke := ke.later hb
 replace ho : OwnR lgenc 3 50 w2 w.heap.size g1 c1 e0.lg := ⟨by have := ho.1; have := Below.size cw; omega, ho.2⟩
 clear hb cw e4 e8 b1
 go_wp2_with fail
 go_loopg [17] e0.lg.length (AlR w B e0 g1 c1)
 case atStart => exact ⟨0, by omega, rfl, kb, ke, ho, c2⟩
 case round =>
  clear kb ke ho c2
  obtain ⟨k, hk, rfl, kb, ke, ho, hbr⟩ := hrel
  have hz1 := Below.size hbr
  by_cases hlt : k < e0.lg.length
  ·obtain ⟨b, off, ha, hc⟩ := rowat lgenc_len ho.row (by omega)
   have e9 := Option.some.inj ha
   have eb : b = g1 := (congrArg Addr.block e9).symm
   have eo : off = 0 := (congrArg Addr.off e9).symm
   have hm := hc k hlt
   rw [eb, eo, Nat.zero_add] at hm
   clear hc ha e9 eb eo
   have hok := HG.out.ok k hlt
   obtain ⟨x, hxx⟩ : ∃ x, x = e0.lg[k]! := ⟨_, rfl⟩
   rw [← hxx] at hm hok
   have HOK := Lib.hid hok
   clear hxx hok
   have cx : Below wr.heap.size wr (wr.alloc (.cells #[.int .i64 (x).ac, .int .i64 (x).am, .string (x).cu] 50)) := Bk.be
   have kx : Bk.Blk (wr.alloc (.cells #[.int .i64 (x).ac, .int .i64 (x).am, .string (x).cu] 50)) wr.heap.size _ 50 := Bk.Blk.nw10
   have c3 := bl2 cx hbr
   replace kb := kb.later cx
   replace ke := ke.later cx
   replace ho := ho.later cx
   go_upto_region 6 with ((refine wpList_load_mid rfl 50 _ rfl _ (k * 3) (by first | rfl | simp) ([.int .i64 (x).ac, .int .i64 (x).am, .string (x).cu]) _ (hm) Tryz.underlying50 rfl (by kernel_rfl) ?_))
   generalize wr.alloc (.cells _ 50) = w3 at *
   generalize wr.heap.size = g3 at *
   clear cx hbr hm
   have x0 := kx.c0
   rcases HOK.out with hx | ⟨hx, hao, hact, ham⟩
   ·have d1 : decide (x.ac < 1000) = true := decide_eq_true hx
    go_wp2_with fail
    go_roundg (gk - 1)
    case measure => omega
    case rel => exact ⟨k + 1, by omega, by go_num, kb, ke, ho, c3⟩
   ·have d1 : decide (x.ac < 1000) = false := decide_eq_false (by omega)
    have HAC := Lib.hid hact
    have HAM := Lib.hid ham
    go_wp2_with ((refine wpList_load_row rfl 33 _ rfl _ rfl _ _ _ _ (kb) Tryz.underlying33 rfl (by kernel_rfl) ?_))
    refine (afind_any B x.ac w3 HN.out.2.2.2.1 (HR.out _ c3).a).mono ?_
    rintro e w4 ⟨rfl, hb⟩
    rw [hao]
    have c4 := bl2 hb c3
    have z4 := Below.size c4
    replace kb := kb.later hb
    replace ke := ke.later hb
    replace kx := kx.later hb
    replace ho := ho.later hb
    generalize aF B x.ac = af at *
    clear hb c3 x0 d1 hact ham hao
    have cx : Below w4.heap.size w4 (w4.alloc (.cells #[.int .i64 (af).id, .int .i64 (af).op, .int .i64 (af).cl, .int .i64 (af).ex, .string (af).ow, .string (af).pr, .string (af).nu] 76)) := Bk.be
    have c5 := bl2 cx c4
    replace kb := kb.later cx
    replace ke := ke.later cx
    replace kx := kx.later cx
    replace ho := ho.later cx
    go_upto_region 8 with fail
    generalize w4.alloc (.cells _ 76) = w5 at *
    clear cx c4
    have x0 := kx.c0
    have e1 := ke.c1
    go_wp2_with ((refine wpList_load_row rfl 33 _ rfl _ rfl _ _ _ _ (kb) Tryz.underlying33 rfl (by kernel_rfl) ?_))
    refine (active_any B x.ac e0.bo w5 HN.out.2.2.2.1 (HR.out _ c5).a).mono ?_
    rintro e w6 ⟨rfl, hb⟩
    rw [HAC.out]
    have c6 := bl2 hb c5
    replace kb := kb.later hb
    replace ke := ke.later hb
    replace kx := kx.later hb
    replace ho := ho.later hb
    clear hb c5 x0 e1
    have x0 := kx.c0
    have x1 := kx.c1
    have e1 := ke.c1
    have b21 := kb.c21
    rw [HG.out.b.1, HG.out.b.2.1, HG.out.b.2.2] at b21
    go_wp2_with fail
    refine (denies0 x.ac e0.bo x.am w6).mono ?_
    rintro e w7 ⟨rfl, hb⟩
    have c7 := bl2 hb c6
    replace kb := kb.later hb
    replace ke := ke.later hb
    replace kx := kx.later hb
    replace ho := ho.later hb
    clear hb c6 x0 x1 e1 b21
    have x1 := kx.c1
    have d2 : decide (0 < x.am) = false := decide_eq_false (by have := HAM.out; omega)
    go_wp2_with fail
    go_roundg (gk - 1)
    case measure => omega
    case rel => exact ⟨k + 1, by omega, by go_num, kb, ke, ho, c7⟩
  ·go_wp2_with fail
   go_ret
   exact ⟨rfl, hbr⟩
end Go.Proofs.YtjhpiclnpmdjnaaGreatDoor.Bm
