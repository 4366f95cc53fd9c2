/-
  Parts of the proof: B14, B19.
-/
import Derived.Test.YtlolflephnbbcaaGreatDoorQ18
import Derived.Test.YtlolflephnbbcaaGreatDoorQ23
import Derived.BigQuiet
namespace Go.Proofs.YtlolflephnbbcaaGreatDoor.Bm
open Go Go.RowKit
open Go.Proofs.YtlolflephnbbcaaGreatDoor
open Go.Proofs.YtlolflephnbbcaaGreatDoor.Ln (flat flat_len flat_get flat_mem RowIn OwnR Idx bl2 results2_cell Blk_setRow_same Blk_setRow_ne Below_setRow)
set_option linter.unusedSimpArgs false
set_option linter.unusedVariables false
set_option maxRecDepth 100000

def NoR2 (w : World) (g : Nat) (s7 s : Value) (W : World) : Prop := s7 = .slice none 0 0 ∧ s = .int .i64 0 ∧ g = 0 ∧ W = w
def NoR (w : World) (g : Nat) (s : Value) (W : World) : Prop := s = .int .i64 0 ∧ g = 0 ∧ W = w
set_option maxHeartbeats 2000000 in
theorem ixB0 (f : Value) (w : World) : Calls Tryz.prog 177 #[.slice none 0 0, f] w fun e w' => e = .returned (.int .i64 (-1)) ∧ w = w' := by
 go_enter Tryz.func177, Tryz.ntmps177
 go_wp2_with fail
 go_loopg [8] 0 (NoR w)
 case atStart => exact ⟨rfl, rfl, rfl⟩
 case round =>
  obtain ⟨rfl, _, rfl⟩ := hrel
  go_wp2_with fail
  go_ret
  exact ⟨rfl, rfl⟩
theorem ctB0 (f : Value) (w : World) : Calls Tryz.prog 143 #[.slice none 0 0, f] w fun e w' => e = .returned (.bool false) ∧ w = w' := by
 go_enter Tryz.func143, Tryz.ntmps143
 go_wp2_with fail
 refine (ixB0 _ _).mono ?_
 rintro e w' ⟨rfl, rfl⟩
 go_wp2_with fail
 go_ret
 exact ⟨rfl, rfl⟩
set_option maxHeartbeats 2000000 in
theorem actB0 (a o : Int) (w : World) : Calls Tryz.prog 144 #[.slice none 0 0, .int .i64 a, .int .i64 o] w fun e w' => e = .returned (.slice none 0 0) ∧ w = w' := by
 go_enter Tryz.func144, Tryz.ntmps144
 go_wp2_with fail
 go_loopg [7, 12] 0 (NoR2 w)
 case atStart => exact ⟨rfl, rfl, rfl, rfl⟩
 case round =>
  obtain ⟨rfl, rfl, _, rfl⟩ := hrel
  go_wp2_with fail
  go_ret
  exact ⟨rfl, rfl⟩
theorem denies0 (a o m : Int) (w : World) : Calls Tryz.prog 97 #[.slice none 0 0, .int .i64 a, .int .i64 o, .int .i64 m] w fun e w' => e = .returned (.bool false) ∧ Below w.heap.size w w' := by
 go_enter Tryz.func97, Tryz.ntmps97
 go_wp2_with fail
 refine (actB0 _ _ _).mono ?_
 rintro e w' ⟨rfl, rfl⟩
 go_wp2_with fail
 refine (ctB0 _ _).mono ?_
 rintro e w' ⟨rfl, rfl⟩
 go_wp2_with fail
 go_ret
 exact ⟨rfl, (Below.refl _ _).alloc (Nat.le_refl _) _⟩
def AlR (w : World) (B : Bo) (e0 : En) (g1 c1 : Nat) (g : Nat) (s : Value) (W : World) : Prop := ∃ k : Nat, k + g = e0.lg.length ∧ s = .int .i64 k ∧ Bk.Blk W w.heap.size #[.slice (B).ua (B).us.length (B).uk, .slice (B).ka (B).kn (B).kk, .slice (B).ga (B).gs.length (B).gk, .int .i64 ((B).pl).p0, .int .i64 ((B).pl).p1, .int .i64 ((B).pl).p2, .int .i64 ((B).pl).p3, .int .i64 ((B).pl).p4, .int .i64 ((B).pl).p5, .int .i64 ((B).pl).p6, .int .i64 ((B).pl).p7, .int .i64 ((B).pl).p8, .int .i64 ((B).pl).p9, .int .i64 ((B).pl).p10, .int .i64 ((B).pl).p11, .int .i64 ((B).pl).p12, .int .i64 ((B).pl).p13, .slice (B).pa (B).ps.length (B).pk, .slice (B).aa (B).as.length (B).ak, .slice (B).ja (B).js.length (B).jk, .slice (B).ha (B).hn (B).hk, .slice (B).ba (B).bn (B).bk] 71 ∧ Bk.Blk W (w.heap.size + 1) #[.int .i64 (e0).id, .int .i64 (e0).bo, .int .i64 (e0).va, .int .i64 (e0).ki, .int .i64 (e0).au, .int .i64 (e0).pe, .string (e0).ke, .string (e0).tx, .slice (e0).la (e0).lg.length (e0).lk, .int .u64 (e0).ch] 80 ∧ OwnR lgenc 3 76 W w.heap.size g1 c1 e0.lg ∧ Below w.heap.size w W
structure AlG (B : Bo) (e : En) : Prop where
 b : B.ba = none ∧ B.bn = 0 ∧ B.bk = 0
 au : e.au = 0
 n : 0 < e.lg.length ∧ e.lg.length ≤ 100000
 asc : ∀ i j, i < j → j < e.lg.length → e.lg[i]!.ac < e.lg[j]!.ac
 nz : ∀ j, j < e.lg.length → (e.lg[j]!.am == 0) = false
 ok : ∀ j, j < e.lg.length → e.lg[j]!.ac < 1000 ∨ (1000 ≤ e.lg[j]!.ac ∧ aO B e.lg[j]!.ac = true ∧ actB B e.lg[j]!.ac e.bo = true ∧ e.lg[j]!.am < 0)
set_option maxHeartbeats 16000000 in
theorem allowed_ok (B : Bo) (e0 : En) (w : World) (h : BoIn w B) (hl : RowIn lgenc w e0.la e0.lg) (hg : AlG B e0) :
  Calls Tryz.prog 58 #[(.agg #[.slice (B).ua (B).us.length (B).uk, .slice (B).ka (B).kn (B).kk, .slice (B).ga (B).gs.length (B).gk, .int .i64 ((B).pl).p0, .int .i64 ((B).pl).p1, .int .i64 ((B).pl).p2, .int .i64 ((B).pl).p3, .int .i64 ((B).pl).p4, .int .i64 ((B).pl).p5, .int .i64 ((B).pl).p6, .int .i64 ((B).pl).p7, .int .i64 ((B).pl).p8, .int .i64 ((B).pl).p9, .int .i64 ((B).pl).p10, .int .i64 ((B).pl).p11, .int .i64 ((B).pl).p12, .int .i64 ((B).pl).p13, .slice (B).pa (B).ps.length (B).pk, .slice (B).aa (B).as.length (B).ak, .slice (B).ja (B).js.length (B).jk, .slice (B).ha (B).hn (B).hk, .slice (B).ba (B).bn (B).bk]), (.agg #[.int .i64 (e0).id, .int .i64 (e0).bo, .int .i64 (e0).va, .int .i64 (e0).ki, .int .i64 (e0).au, .int .i64 (e0).pe, .string (e0).ke, .string (e0).tx, .slice (e0).la (e0).lg.length (e0).lk, .int .u64 (e0).ch])] w fun e w' => e = .returned (.int .i64 0) ∧ Below w.heap.size w w' := by
 have cw : Below w.heap.size w ((w.alloc (.cells #[.slice (B).ua (B).us.length (B).uk, .slice (B).ka (B).kn (B).kk, .slice (B).ga (B).gs.length (B).gk, .int .i64 ((B).pl).p0, .int .i64 ((B).pl).p1, .int .i64 ((B).pl).p2, .int .i64 ((B).pl).p3, .int .i64 ((B).pl).p4, .int .i64 ((B).pl).p5, .int .i64 ((B).pl).p6, .int .i64 ((B).pl).p7, .int .i64 ((B).pl).p8, .int .i64 ((B).pl).p9, .int .i64 ((B).pl).p10, .int .i64 ((B).pl).p11, .int .i64 ((B).pl).p12, .int .i64 ((B).pl).p13, .slice (B).pa (B).ps.length (B).pk, .slice (B).aa (B).as.length (B).ak, .slice (B).ja (B).js.length (B).jk, .slice (B).ha (B).hn (B).hk, .slice (B).ba (B).bn (B).bk] 71)).alloc (.cells #[.int .i64 (e0).id, .int .i64 (e0).bo, .int .i64 (e0).va, .int .i64 (e0).ki, .int .i64 (e0).au, .int .i64 (e0).pe, .string (e0).ke, .string (e0).tx, .slice (e0).la (e0).lg.length (e0).lk, .int .u64 (e0).ch] 80)) := Bk.be
 have kb : Bk.Blk ((w.alloc (.cells #[.slice (B).ua (B).us.length (B).uk, .slice (B).ka (B).kn (B).kk, .slice (B).ga (B).gs.length (B).gk, .int .i64 ((B).pl).p0, .int .i64 ((B).pl).p1, .int .i64 ((B).pl).p2, .int .i64 ((B).pl).p3, .int .i64 ((B).pl).p4, .int .i64 ((B).pl).p5, .int .i64 ((B).pl).p6, .int .i64 ((B).pl).p7, .int .i64 ((B).pl).p8, .int .i64 ((B).pl).p9, .int .i64 ((B).pl).p10, .int .i64 ((B).pl).p11, .int .i64 ((B).pl).p12, .int .i64 ((B).pl).p13, .slice (B).pa (B).ps.length (B).pk, .slice (B).aa (B).as.length (B).ak, .slice (B).ja (B).js.length (B).jk, .slice (B).ha (B).hn (B).hk, .slice (B).ba (B).bn (B).bk] 71)).alloc (.cells #[.int .i64 (e0).id, .int .i64 (e0).bo, .int .i64 (e0).va, .int .i64 (e0).ki, .int .i64 (e0).au, .int .i64 (e0).pe, .string (e0).ke, .string (e0).tx, .slice (e0).la (e0).lg.length (e0).lk, .int .u64 (e0).ch] 80)) w.heap.size _ 71 := Bk.Blk.nw20
 have ke : Bk.Blk ((w.alloc (.cells #[.slice (B).ua (B).us.length (B).uk, .slice (B).ka (B).kn (B).kk, .slice (B).ga (B).gs.length (B).gk, .int .i64 ((B).pl).p0, .int .i64 ((B).pl).p1, .int .i64 ((B).pl).p2, .int .i64 ((B).pl).p3, .int .i64 ((B).pl).p4, .int .i64 ((B).pl).p5, .int .i64 ((B).pl).p6, .int .i64 ((B).pl).p7, .int .i64 ((B).pl).p8, .int .i64 ((B).pl).p9, .int .i64 ((B).pl).p10, .int .i64 ((B).pl).p11, .int .i64 ((B).pl).p12, .int .i64 ((B).pl).p13, .slice (B).pa (B).ps.length (B).pk, .slice (B).aa (B).as.length (B).ak, .slice (B).ja (B).js.length (B).jk, .slice (B).ha (B).hn (B).hk, .slice (B).ba (B).bn (B).bk] 71)).alloc (.cells #[.int .i64 (e0).id, .int .i64 (e0).bo, .int .i64 (e0).va, .int .i64 (e0).ki, .int .i64 (e0).au, .int .i64 (e0).pe, .string (e0).ke, .string (e0).tx, .slice (e0).la (e0).lg.length (e0).lk, .int .u64 (e0).ch] 80)) (w.heap.size + 1) _ 80 := Bk.Blk.nw21
 have HR := Lib.hid (fun (W : World) (hW : Below w.heap.size w W) => h.later hW)
 have HL := Lib.hid (fun (W : World) (hW : Below w.heap.size w W) => hl.later hW)
 have HG := Lib.hid hg
 have HN := Lib.hid h.n
 have hnl := hg.n.2
 have b1 : (e0.au != 0) = false := by rw [hg.au]; rfl
 clear h hl hg
 go_enter Tryz.func58, Tryz.ntmps58
 go_upto_region 1 with fail
 generalize ((w.alloc (.cells _ 71)).alloc (.cells _ 80)) = w1 at *
 have e4 := ke.c4
 have e8 := ke.c8
 go_wp2_with fail
 refine (net_any e0.la e0.lk e0.lg w1 (HL.out _ cw) HG.out.n.1 HG.out.n.2 HG.out.asc HG.out.nz).mono ?_
 rintro e w2 ⟨g1, c1, rfl, ho, hb⟩
 have c2 := bl2 hb cw
 replace kb := kb.later hb
 replace ke := ke.later hb
 replace ho : OwnR lgenc 3 76 w2 w.heap.size g1 c1 e0.lg := ⟨by have := ho.1; have := Below.size cw; omega, ho.2⟩
 clear hb cw e4 e8 b1
 go_wp2_with fail
 go_loopg [17] e0.lg.length (AlR w B e0 g1 c1)
 case atStart => exact ⟨0, by omega, rfl, kb, ke, ho, c2⟩
 case round =>
  clear kb ke ho c2
  obtain ⟨k, hk, rfl, kb, ke, ho, hbr⟩ := hrel
  have hz1 := Below.size hbr
  by_cases hlt : k < e0.lg.length
  ·obtain ⟨b, off, ha, hc⟩ := rowat lgenc_len ho.row (by omega)
   have e9 := Option.some.inj ha
   have eb : b = g1 := (congrArg Addr.block e9).symm
   have eo : off = 0 := (congrArg Addr.off e9).symm
   have hm := hc k hlt
   rw [eb, eo, Nat.zero_add] at hm
   clear hc ha e9 eb eo
   have hok := HG.out.ok k hlt
   obtain ⟨x, hxx⟩ : ∃ x, x = e0.lg[k]! := ⟨_, rfl⟩
   rw [← hxx] at hm hok
   have HOK := Lib.hid hok
   clear hxx hok
   have cx : Below wr.heap.size wr (wr.alloc (.cells #[.int .i64 (x).ac, .int .i64 (x).am, .string (x).cu] 76)) := Bk.be
   have kx : Bk.Blk (wr.alloc (.cells #[.int .i64 (x).ac, .int .i64 (x).am, .string (x).cu] 76)) wr.heap.size _ 76 := Bk.Blk.nw10
   have c3 := bl2 cx hbr
   replace kb := kb.later cx
   replace ke := ke.later cx
   replace ho := ho.later cx
   go_upto_region 6 with ((refine wpList_load_mid rfl 76 _ rfl _ (k * 3) (by first | rfl | simp) ([.int .i64 (x).ac, .int .i64 (x).am, .string (x).cu]) _ (hm) Tryz.underlying76 rfl (by kernel_rfl) ?_))
   generalize wr.alloc (.cells _ 76) = w3 at *
   generalize wr.heap.size = g3 at *
   clear cx hbr hm
   have x0 := kx.c0
   rcases HOK.out with hx | ⟨hx, hao, hact, ham⟩
   ·have d1 : decide (x.ac < 1000) = true := decide_eq_true hx
    go_wp2_with fail
    go_roundg (gk - 1)
    case measure => omega
    case rel => exact ⟨k + 1, by omega, by go_num, kb, ke, ho, c3⟩
   ·have d1 : decide (x.ac < 1000) = false := decide_eq_false (by omega)
    have HAC := Lib.hid hact
    have HAM := Lib.hid ham
    go_wp2_with ((refine wpList_load_row rfl 71 _ rfl _ rfl _ _ _ _ (kb) Tryz.underlying71 rfl (by kernel_rfl) ?_))
    refine (afind_any B x.ac w3 HN.out.2.2.2.1 (HR.out _ c3).a).mono ?_
    rintro e w4 ⟨rfl, hb⟩
    rw [hao]
    have c4 := bl2 hb c3
    have z4 := Below.size c4
    replace kb := kb.later hb
    replace ke := ke.later hb
    replace kx := kx.later hb
    replace ho := ho.later hb
    generalize aF B x.ac = af at *
    clear hb c3 x0 d1 hact ham hao
    have cx : Below w4.heap.size w4 (w4.alloc (.cells #[.int .i64 (af).id, .int .i64 (af).op, .int .i64 (af).cl, .int .i64 (af).ex, .string (af).ow, .string (af).pr, .string (af).nu] 122)) := Bk.be
    have c5 := bl2 cx c4
    replace kb := kb.later cx
    replace ke := ke.later cx
    replace kx := kx.later cx
    replace ho := ho.later cx
    go_upto_region 8 with fail
    generalize w4.alloc (.cells _ 122) = w5 at *
    clear cx c4
    have x0 := kx.c0
    have e1 := ke.c1
    go_wp2_with ((refine wpList_load_row rfl 71 _ rfl _ rfl _ _ _ _ (kb) Tryz.underlying71 rfl (by kernel_rfl) ?_))
    refine (active_any B x.ac e0.bo w5 HN.out.2.2.2.1 (HR.out _ c5).a).mono ?_
    rintro e w6 ⟨rfl, hb⟩
    rw [HAC.out]
    have c6 := bl2 hb c5
    replace kb := kb.later hb
    replace ke := ke.later hb
    replace kx := kx.later hb
    replace ho := ho.later hb
    clear hb c5 x0 e1
    have x0 := kx.c0
    have x1 := kx.c1
    have e1 := ke.c1
    have b21 := kb.c21
    rw [HG.out.b.1, HG.out.b.2.1, HG.out.b.2.2] at b21
    go_wp2_with fail
    refine (denies0 x.ac e0.bo x.am w6).mono ?_
    rintro e w7 ⟨rfl, hb⟩
    have c7 := bl2 hb c6
    replace kb := kb.later hb
    replace ke := ke.later hb
    replace kx := kx.later hb
    replace ho := ho.later hb
    clear hb c6 x0 x1 e1 b21
    have x1 := kx.c1
    have d2 : decide (0 < x.am) = false := decide_eq_false (by have := HAM.out; omega)
    go_wp2_with fail
    go_roundg (gk - 1)
    case measure => omega
    case rel => exact ⟨k + 1, by omega, by go_num, kb, ke, ho, c7⟩
  ·go_wp2_with fail
   go_ret
   exact ⟨rfl, hbr⟩
end Go.Proofs.YtlolflephnbbcaaGreatDoor.Bm
namespace Go.Proofs.YtlolflephnbbcaaGreatDoor.Bm
open Go Go.RowKit
open Go.Proofs.YtlolflephnbbcaaGreatDoor
open Go.Proofs.YtlolflephnbbcaaGreatDoor.Kl (upto upto_yes upto_no upto_iff byt byt_get upB codeB)
set_option linter.unusedSimpArgs false
set_option linter.unusedVariables false
set_option maxRecDepth 100000

def IsB (e : Ending) : Prop := ∃ b : Bool, e = .returned (.bool b)
def CntS (n : Nat) (w : World) (g : Nat) (s : Value) (W : World) : Prop := ∃ k : Nat, k + g = n ∧ s = .int .i64 k ∧ w = W
def CntN (n : Nat) (w : World) (g : Nat) (s0 s : Value) (W : World) : Prop := ∃ k : Nat, k + g = n ∧ s = .int .i64 k ∧ (∃ h : Int, s0 = .int .i64 h ∧ 0 ≤ h ∧ h ≤ 96) ∧ w = W
set_option maxHeartbeats 4000000 in
theorem plain_any (s : ByteArray) (w : World) (hs : s.size ≤ maxLen) : Calls Tryz.prog 128 #[.string s] w fun e w' => IsB e ∧ w = w' := by
 have hm : s.size ≤ 9223372036854775807 := by unfold maxLen at hs; omega
 clear hs
 go_enter Tryz.func128, Tryz.ntmps128
 go_wp2_with fail
 go_loopg [3] s.size (CntS s.size w)
 case atStart => exact ⟨0, by omega, rfl, rfl⟩
 case round =>
  obtain ⟨i, hi, rfl, rfl⟩ := hrel
  by_cases hlt : i < s.size
  ·have hb := byt_get hlt
   have hc := (s[i]'hlt).toNat_lt
   by_cases b1 : byt s i < 48
   ·go_wp2_with fail
    go_ret
    exact ⟨⟨_, rfl⟩, rfl⟩
   ·by_cases b2 : 57 < byt s i
    ·by_cases b3 : byt s i < 65
     ·go_wp2_with fail
      go_ret
      exact ⟨⟨_, rfl⟩, rfl⟩
     ·by_cases b4 : 90 < byt s i
      ·go_wp2_with fail
       go_ret
       exact ⟨⟨_, rfl⟩, rfl⟩
      ·go_wp2_with fail
       go_roundg (gk - 1)
       case measure => omega
       case rel => exact ⟨i + 1, by omega, by go_num, rfl⟩
    ·go_wp2_with fail
     go_roundg (gk - 1)
     case measure => omega
     case rel => exact ⟨i + 1, by omega, by go_num, rfl⟩
  ·go_wp2_with fail
   go_ret
   exact ⟨⟨_, rfl⟩, rfl⟩
set_option maxHeartbeats 4000000 in
theorem rest_any (s : ByteArray) (w : World) (hs : s.size ≤ maxLen) : Calls Tryz.prog 129 #[.string s] w fun e w' => (∃ r : Int, e = .returned (.int .i64 r) ∧ 0 ≤ r ∧ r ≤ 96) ∧ w = w' := by
 have hm : s.size ≤ 9223372036854775807 := by unfold maxLen at hs; omega
 clear hs
 go_enter Tryz.func129, Tryz.ntmps129
 go_wp2_with fail
 go_loopg [3, 4] s.size (CntN s.size w)
 case atStart => exact ⟨0, by omega, rfl, ⟨0, rfl, by decide, by decide⟩, rfl⟩
 case round =>
  obtain ⟨i, hi, rfl, ⟨h, rfl, h0, h1⟩, rfl⟩ := hrel
  by_cases hlt : i < s.size
  ·have hb := byt_get hlt
   have hc := (s[i]'hlt).toNat_lt
   by_cases b2 : byt s i ≤ 57
   ·go_wp2_with fail
    go_roundg (gk - 1)
    case measure => omega
    case rel => exact ⟨i + 1, by omega, by go_num, ⟨_, rfl, by omega, by omega⟩, rfl⟩
   ·go_wp2_with fail
    go_roundg (gk - 1)
    case measure => omega
    case rel => exact ⟨i + 1, by omega, by go_num, ⟨_, rfl, by omega, by omega⟩, rfl⟩
  ·go_wp2_with fail
   go_ret
   exact ⟨⟨_, rfl, h0, h1⟩, rfl⟩
theorem cut1 (q : Int) (h0 : 0 ≤ q) (h1 : q ≤ 9) : ∃ c : ByteArray, c.size = 1 ∧ ∀ W : World, (Instr.slice 9 (.string ⟨#[48, 49, 50, 51, 52, 53, 54, 55, 56, 57]⟩) (some (.int .i64 q)) (some (.int .i64 (q + 1))) none).run Tryz.prog W = .ok (.string c) W := by
 refine ⟨(ByteArray.mk #[48, 49, 50, 51, 52, 53, 54, 55, 56, 57]).extract q.toNat (q + 1).toNat, ?_, fun W => run_slice_string W 9 _ .i64 .i64 q (q + 1) Tryz.underlying9 h0 (by omega) (by show q + 1 ≤ 10; omega)⟩
 rw [ByteArray.size_extract]
 show min (q + 1).toNat 10 - q.toNat = 1
 omega
set_option maxHeartbeats 4000000 in
theorem seal_any (s : ByteArray) (w : World) (hs : s.size ≤ 1000) : Calls Tryz.prog 84 #[.string s] w fun e w' => (∃ t : ByteArray, ∃ k : Int, e = .returned (.tuple #[.string t, .int .i64 k])) ∧ Below w.heap.size w w' := by
 have HM := Lib.hid (show s.size ≤ maxLen by unfold maxLen; omega)
 go_enter Tryz.func84, Tryz.ntmps84
 by_cases a1 : s.size < 1
 ·go_wp2_with fail
  go_ret2
  exact ⟨⟨_, _, rfl⟩, Below.refl _ _⟩
 ·by_cases a2 : 46 < s.size
  ·go_wp2_with fail
   go_ret2
   exact ⟨⟨_, _, rfl⟩, Below.refl _ _⟩
  ·go_wp2_with fail
   refine (plain_any s _ HM.out).mono ?_
   rintro e w' ⟨⟨b, rfl⟩, rfl⟩
   cases b
   ·go_wp2_with fail
    go_ret2
    exact ⟨⟨_, _, rfl⟩, Below.refl _ _⟩
   ·go_wp2_with fail
    refine (rest_any _ _ (by rw [ByteArray.size_append]; show s.size + 2 ≤ maxLen; unfold maxLen; omega)).mono ?_
    rintro e w' ⟨⟨r, rfl, r0, r1⟩, rfl⟩
    obtain ⟨k, hk⟩ : ∃ k, k = 98 - r := ⟨_, rfl⟩
    have k0 : 0 ≤ k := by omega
    have k1 : k ≤ 98 := by omega
    obtain ⟨c1, z1', h1'⟩ := cut1 (k / 10) (by omega) (by omega)
    obtain ⟨c2, z2', h2'⟩ := cut1 (k % 10) (by omega) (by omega)
    have hsz : (s ++ c1).size ≤ 9223372036854775807 := by rw [ByteArray.size_append]; omega
    have hsz2 : ((s ++ c1) ++ c2).size ≤ 9223372036854775807 := by rw [ByteArray.size_append, ByteArray.size_append]; omega
    go_upto_region 6 with fail
    rw [← hk]
    clear hk r0 r1
    go_quiet (fail)
    (try simp only [Exit.inBlock, Exit.then])
    go_wp2_with fail
    go_ret2
    exact ⟨⟨_, _, rfl⟩, ⟨rfl, rfl, rfl, Nat.le_refl _, fun _ _ => rfl⟩⟩
def NuR (w : World) (g : Nat) (s0 s3 s4 : Value) (W : World) : Prop := ∃ k : Nat, k + g = 8 ∧ s4 = .int .i64 k ∧ (∃ id : Int, s0 = .int .i64 id ∧ 0 ≤ id ∧ id ≤ 99999999) ∧ (∃ s : ByteArray, s3 = .string s ∧ s.size = k) ∧ w = W
set_option maxHeartbeats 4000000 in
theorem number_any (id : Int) (w : World) (hi0 : 1000 ≤ id) (hi1 : id ≤ 99999999) : Calls Tryz.prog 53 #[.int .i64 id] w fun e w' => (∃ t : ByteArray, e = .returned (.string t)) ∧ Below w.heap.size w w' := by
 go_enter Tryz.func53, Tryz.ntmps53
 go_wp2_with fail
 go_loopg [0, 3, 4] 8 (NuR w)
 case atStart => exact ⟨0, by omega, rfl, ⟨id, rfl, by omega, by omega⟩, ⟨_, rfl, rfl⟩, rfl⟩
 case round =>
  clear hi0 hi1
  obtain ⟨k, hk, rfl, ⟨id, rfl, i0, i1⟩, ⟨s, rfl, hs⟩, rfl⟩ := hrel
  by_cases hlt : k < 8
  ·obtain ⟨c, zc, hc⟩ := cut1 (id % 10) (by omega) (by omega)
   have hz : (c ++ s).size = k + 1 := by rw [ByteArray.size_append]; omega
   have hsz : (c ++ s).size ≤ 9223372036854775807 := by omega
   go_wp2_with fail
   go_roundg (gk - 1)
   case measure => omega
   case rel => exact ⟨k + 1, by omega, by go_num, ⟨_, rfl, by omega, by omega⟩, ⟨_, rfl, hz⟩, rfl⟩
  ·have hsz : (ByteArray.mk #[67, 66] ++ s).size ≤ 1000 := by rw [ByteArray.size_append]; show 2 + s.size ≤ 1000; omega
   have hsz2 : (ByteArray.mk #[67, 66] ++ s).size ≤ 9223372036854775807 := by omega
   go_wp2_with fail
   refine (seal_any _ _ hsz).mono ?_
   rintro e w' ⟨⟨t, ek, rfl⟩, hb⟩
   go_wp2_with fail
   go_ret
   exact ⟨⟨_, rfl⟩, hb⟩
end Go.Proofs.YtlolflephnbbcaaGreatDoor.Bm
