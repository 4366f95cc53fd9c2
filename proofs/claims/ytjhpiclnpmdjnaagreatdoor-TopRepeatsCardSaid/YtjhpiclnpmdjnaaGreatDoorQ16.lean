/-
  Parts of the proof: B12.
-/
import Derived.Test.YtjhpiclnpmdjnaaGreatDoorQ15
import Derived.Test.YtjhpiclnpmdjnaaGreatDoorQ06
namespace Go.Proofs.YtjhpiclnpmdjnaaGreatDoor.Bm
open Go Go.RowKit
open Go.Proofs.YtjhpiclnpmdjnaaGreatDoor
open Go.Proofs.YtjhpiclnpmdjnaaGreatDoor.Ln (flat flat_len flat_get flat_mem RowIn OwnR Idx bl2 take_at one_at call_wp value_wp SQ SQ.mono tk ts z0 z1 z2 z3 z4 z5)
open Go.Proofs.YtjhpiclnpmdjnaaGreatDoor.Sr (GV)
set_option linter.unusedSimpArgs false
set_option linter.unusedVariables false
set_option maxRecDepth 100000

def wid (n : Int) : Prop := -9223372036854775808 ≤ n ∧ n ≤ 9223372036854775807
structure EnS (e : En) : Prop where
 n0 : wid e.id
 n1 : wid e.bo
 n2 : wid e.va
 n3 : wid e.ki
 n4 : wid e.au
 n5 : wid e.pe
 ke : e.ke.size ≤ 100
 tx : e.tx.size ≤ 100
 ln : 1 ≤ e.lg.length ∧ e.lg.length ≤ 12
 lg : ∀ j, j < e.lg.length → wid e.lg[j]!.ac ∧ wid e.lg[j]!.am ∧ e.lg[j]!.cu.size ≤ 100
theorem str_info : (Tryz.prog.info? 9).map (fun i => (i.zero, i.size, i.bytes)) = some (some (.string .empty), 1, 16) := by kernel_rfl
theorem sizes_app (xs ys : List ByteArray) : sizes (xs ++ ys) = sizes xs + sizes ys := by simp [sizes]
theorem sizes_snoc (xs : List ByteArray) (s : ByteArray) : sizes (xs ++ [s]) = sizes xs + s.size := by simp [sizes]
def EcR (w : World) (e : En) (g : Nat) (s3 s12 : Value) (W : World) : Prop := ∃ (k : Nat) (xs : List ByteArray), k + g = e.lg.length ∧ s12 = .int .i64 k ∧ xs.length = k ∧ sizes xs ≤ 208 * k ∧ GV senc 1 9 W (w.heap.size + 1) s3 xs ∧ Bk.Blk W w.heap.size #[.int .i64 (e).id, .int .i64 (e).bo, .int .i64 (e).va, .int .i64 (e).ki, .int .i64 (e).au, .int .i64 (e).pe, .string (e).ke, .string (e).tx, .slice (e).la (e).lg.length (e).lk, .int .u64 (e).ch] 39 ∧ Below w.heap.size w W
def Ec2R (w : World) (e : En) (s3 : Value) (ls : List ByteArray) (g : Nat) (s4 s43 : Value) (W : World) : Prop := ∃ (k : Nat) (xs : List ByteArray), k + g = 6 ∧ s43 = .int .i64 k ∧ xs.length = k ∧ sizes xs ≤ 21 * k ∧ GV senc 1 9 W (w.heap.size + 1) s4 xs ∧ GV senc 1 9 W (w.heap.size + 1) s3 ls ∧ (∀ j, s3.ownBlock = some j → s4.ownBlock ≠ some j) ∧ Bk.Blk W w.heap.size #[.int .i64 (e).id, .int .i64 (e).bo, .int .i64 (e).va, .int .i64 (e).ki, .int .i64 (e).au, .int .i64 (e).pe, .string (e).ke, .string (e).tx, .slice (e).la (e).lg.length (e).lk, .int .u64 (e).ch] 39 ∧ Below w.heap.size w W
theorem gv_keep {α : Type} {enc : α → List Value} {k : Nat} {T : TypeId} {W W' : World} {B : Nat} {v : Value} {xs : List α} {row : Option Nat} (h : GV enc k T W B v xs) (hg : W.grownBy W' row) (hne : ∀ j, v.ownBlock = some j → row ≠ some j) : GV enc k T W' B v xs := by
 have hlt := h.lt
 obtain ⟨⟨hl, ho⟩, hs⟩ := h
 refine ⟨⟨hl, ?_⟩, hs⟩
 rcases ho with ho | ⟨g, cap, cur, rfl, h2, h3, h4⟩
 ·exact .inl ho
 ·exact .inr ⟨g, cap, cur, rfl, h2, (hg.block g (hlt g rfl).1 (fun e => hne g rfl e.symm)).trans h3, h4⟩
theorem ix6_0 (a b c d e f : Value) (W : World) : (Instr.index 208 (.agg #[a, b, c, d, e, f]) (.int .i64 0)).run Tryz.prog W = .ok a W := by
 simp [Instr.index, run_underlying Tryz.underlying208, asIntOf, go_sem]
theorem ix6_1 (a b c d e f : Value) (W : World) : (Instr.index 208 (.agg #[a, b, c, d, e, f]) (.int .i64 1)).run Tryz.prog W = .ok b W := by
 simp [Instr.index, run_underlying Tryz.underlying208, asIntOf, go_sem]
theorem ix6_2 (a b c d e f : Value) (W : World) : (Instr.index 208 (.agg #[a, b, c, d, e, f]) (.int .i64 2)).run Tryz.prog W = .ok c W := by
 simp [Instr.index, run_underlying Tryz.underlying208, asIntOf, go_sem]
theorem ix6_3 (a b c d e f : Value) (W : World) : (Instr.index 208 (.agg #[a, b, c, d, e, f]) (.int .i64 3)).run Tryz.prog W = .ok d W := by
 simp [Instr.index, run_underlying Tryz.underlying208, asIntOf, go_sem]
theorem ix6_4 (a b c d e f : Value) (W : World) : (Instr.index 208 (.agg #[a, b, c, d, e, f]) (.int .i64 4)).run Tryz.prog W = .ok e W := by
 simp [Instr.index, run_underlying Tryz.underlying208, asIntOf, go_sem]
theorem ix6_5 (a b c d e f : Value) (W : World) : (Instr.index 208 (.agg #[a, b, c, d, e, f]) (.int .i64 5)).run Tryz.prog W = .ok f W := by
 simp [Instr.index, run_underlying Tryz.underlying208, asIntOf, go_sem]
theorem rowS3 {W : World} {g : Nat} {a b c : ByteArray} {t : TypeId} (h : Bk.Blk W g #[.string a, .string b, .string c] t) : RowIn senc W (some ⟨g, 0, none⟩) [a, b, c] := fun _ => ⟨g, 0, rfl, fun j u hj => by
 rw [Nat.zero_add, h.cell]
 have e : flat senc [a, b, c] = [.string a, .string b, .string c] := by simp [flat, senc]
 rw [e] at hj
 simpa using hj⟩
theorem rowS1 {W : World} {g : Nat} {a : ByteArray} {t : TypeId} (h : Bk.Blk W g #[.string a] t) : RowIn senc W (some ⟨g, 0, none⟩) [a] := fun _ => ⟨g, 0, rfl, fun j u hj => by
 rw [Nat.zero_add, h.cell]
 have e : flat senc [a] = [.string a] := by simp [flat, senc]
 rw [e] at hj
 simpa using hj⟩
set_option maxHeartbeats 16000000 in
theorem encode_any (e0 : En) (w : World) (h : EnS e0) (hl : RowIn lgenc w e0.la e0.lg) (ht : Tab w) : Calls Tryz.prog 103 #[(.agg #[.int .i64 (e0).id, .int .i64 (e0).bo, .int .i64 (e0).va, .int .i64 (e0).ki, .int .i64 (e0).au, .int .i64 (e0).pe, .string (e0).ke, .string (e0).tx, .slice (e0).la (e0).lg.length (e0).lk, .int .u64 (e0).ch])] w fun e w' => (∃ s : ByteArray, e = .returned (.string s) ∧ s.size ≤ 10000) ∧ Below w.heap.size w w' := by
 have cw : Below w.heap.size w (w.alloc (.cells #[.int .i64 (e0).id, .int .i64 (e0).bo, .int .i64 (e0).va, .int .i64 (e0).ki, .int .i64 (e0).au, .int .i64 (e0).pe, .string (e0).ke, .string (e0).tx, .slice (e0).la (e0).lg.length (e0).lk, .int .u64 (e0).ch] 39)) := Bk.be
 have ke : Bk.Blk (w.alloc (.cells #[.int .i64 (e0).id, .int .i64 (e0).bo, .int .i64 (e0).va, .int .i64 (e0).ki, .int .i64 (e0).au, .int .i64 (e0).pe, .string (e0).ke, .string (e0).tx, .slice (e0).la (e0).lg.length (e0).lk, .int .u64 (e0).ch] 39)) w.heap.size _ 39 := Bk.Blk.nw10
 have HL := Lib.hid (fun (W : World) (hW : Below w.heap.size w W) => hl.later hW)
 have HT := Lib.hid (fun (W : World) (hW : Below w.heap.size w W) => ht.of hW)
 have HG := Lib.hid h
 have hln := h.ln
 clear h hl ht
 go_enter Tryz.func103, Tryz.ntmps103
 go_upto_region 1 with fail
 generalize (w.alloc (.cells _ 39)) = w1 at *
 have l8 := ke.c8
 go_wp2_with fail
 clear l8
 go_loopg [3, 12] e0.lg.length (EcR w e0)
 case atStart => exact ⟨0, [], by omega, rfl, rfl, by simp [sizes], GV.nil _ _, ke, cw⟩
 case round =>
  clear ke cw
  obtain ⟨k, xs, hk, rfl, hxl, hxs, hgv, ke, hbr⟩ := hrel
  have HV := Lib.hid (And.intro hxl (And.intro hxs hgv))
  clear hxl hxs hgv
  by_cases hlt : k < e0.lg.length
  ·obtain ⟨b, off, ha, hc⟩ := rowat lgenc_len (HL.out _ hbr) (by omega)
   have hm := hc k hlt
   clear hc
   obtain ⟨x1, x2, x3⟩ := HG.out.lg k hlt
   obtain ⟨x, hxx⟩ : ∃ x, x = e0.lg[k]! := ⟨_, rfl⟩
   rw [← hxx] at hm x1 x2 x3
   have HX := Lib.hid (And.intro x1 (And.intro x2 x3))
   clear hxx x1 x2 x3
   rw [ha]
   have HA := Lib.hid ha
   clear ha
   have cx : Below wr.heap.size wr (wr.alloc (.cells #[.int .i64 (x).ac, .int .i64 (x).am, .string (x).cu] 50)) := Bk.be
   have kx : Bk.Blk (wr.alloc (.cells #[.int .i64 (x).ac, .int .i64 (x).am, .string (x).cu] 50)) wr.heap.size _ 50 := Bk.Blk.nw10
   have c2 := bl2 cx hbr
   have hz1 := Below.size hbr
   have hgv := HV.out.2.2.later cx
   have hown : ∀ j, (_ : Value).ownBlock = some j → j < wr.heap.size := fun j hj => (HV.out.2.2.lt j hj).1
   replace ke := ke.later cx
   go_upto_region 5 with ((refine wpList_load_mid rfl 50 _ rfl _ (off + k * 3) (by first | rfl | simp) ([.int .i64 (x).ac, .int .i64 (x).am, .string (x).cu]) _ (hm) Tryz.underlying50 rfl (by kernel_rfl) ?_))
   clear hm cx hbr
   generalize wr.alloc (.cells _ 50) = w2 at *
   obtain ⟨g2, eg2⟩ : ∃ g, g = wr.heap.size := ⟨_, rfl⟩
   rw [← eg2] at kx hz1 hown ⊢
   clear eg2
   rw [← HA.out]
   have HOW := Lib.hid hown
   clear hown
   (try simp only [Act.put])
   have hS0 : SQ w g2 #[.int .i64 (x).ac, .int .i64 (x).am, .string (x).cu] 50 w2.drew := ⟨kx.drew, c2.drew⟩
   have hgv0 := hgv.later (Below.drew (Below.refl w2.heap.size w2))
   have ke0 := ke.drew
   clear kx c2 hgv ke
   refine wp_region_held_drew (S := SQ w g2 #[.int .i64 (x).ac, .int .i64 (x).am, .string (x).cu] 50) (by kernel_rfl) hS0 (fun hS => ?_)
   clear hS0
   refine tk 0 (by decide) ?_ hS (by kernel_rfl) (by kernel_rfl) (by kernel_rfl) (by rfl) (fun _ _ _ h => h) ?_ ?_
   rotate_left
   ·intro W hW
    have q := hW.1.c0; have q2 := hW.1.c1; have q3 := hW.1.c2
    clear hW
    simp only [z0, z1]
    go_simp
    first | done | with_reducible rfl
   simp only [z0, z1, Act.put, z3, z4, z5]
   refine tk 1 (by decide) ?_ hS (by kernel_rfl) (by kernel_rfl) (by kernel_rfl) (by rfl) (fun _ _ _ h => h) ?_ ?_
   rotate_left
   ·intro W hW
    have q := hW.1.c0; have q2 := hW.1.c1; have q3 := hW.1.c2
    clear hW
    simp only [z0, z1]
    go_simp
    first | done | with_reducible rfl
   simp only [z0, z1, Act.put, z3, z4, z5]
   refine tk 2 (by decide) ?_ hS (by kernel_rfl) (by kernel_rfl) (by kernel_rfl) (by rfl) (fun _ _ _ h => h) ?_ ?_
   rotate_left
   ·intro W hW
    have q := hW.1.c0; have q2 := hW.1.c1; have q3 := hW.1.c2
    clear hW
    simp only [z0, z1]
    go_simp
    first | done | with_reducible rfl
   simp only [z0, z1, Act.put, z3, z4, z5]
   refine tk 4 (by decide) ?_ hS (by kernel_rfl) (by kernel_rfl) (by kernel_rfl) (by rfl) (fun _ _ _ h => h) ?_ ?_
   rotate_left
   ·intro W hW
    have q := hW.1.c0; have q2 := hW.1.c1; have q3 := hW.1.c2
    clear hW
    simp only [z0, z1]
    go_simp
    first | done | with_reducible rfl
   simp only [z0, z1, Act.put, z3, z4, z5]
   refine tk 5 (by decide) ?_ hS (by kernel_rfl) (by kernel_rfl) (by kernel_rfl) (by rfl) (fun _ _ _ h => h) ?_ ?_
   rotate_left
   ·intro W hW
    have q := hW.1.c0; have q2 := hW.1.c1; have q3 := hW.1.c2
    clear hW
    simp only [z0, z1]
    go_simp
    first | done | with_reducible rfl
   simp only [z0, z1, Act.put, z3, z4, z5]
   refine tk 7 (by decide) ?_ hS (by kernel_rfl) (by kernel_rfl) (by kernel_rfl) (by rfl) (fun _ _ _ h => h) ?_ ?_
   rotate_left
   ·intro W hW
    have q := hW.1.c0; have q2 := hW.1.c1; have q3 := hW.1.c2
    clear hW
    simp only [z0, z1]
    go_simp
    first | done | with_reducible rfl
   simp only [z0, z1, Act.put, z3, z4, z5]
   refine tk 8 (by decide) ?_ hS (by kernel_rfl) (by kernel_rfl) (by kernel_rfl) (by rfl) (fun _ _ _ h => h) ?_ ?_
   rotate_left
   ·intro W hW
    have q := hW.1.c0; have q2 := hW.1.c1; have q3 := hW.1.c2
    clear hW
    simp only [z0, z1]
    go_simp
    first | done | with_reducible rfl
   simp only [z0, z1, Act.put, z3, z4, z5]
   refine one_at 3 (by decide) (by kernel_rfl) (by rfl) (fun K hK => ?_)
   refine call_wp (by simp only [z0, z1]; go_simp; first | done | rfl | exact ⟨rfl, rfl⟩) ((wint_any x.ac _ HX.out.1 (HT.out _ hS.2)).mono ?_)
   rintro e w3 ⟨⟨s1, rfl, hs1⟩, hb⟩
   have hT := SQ.mono _ _ hS hb
   replace hgv0 := hgv0.later hb
   replace ke0 := ke0.later hb
   refine ⟨_, rfl, hK.out _ _ hT (fun hT' => ?_)⟩
   clear hT' hS hK hb
   have hS := hT
   clear hT
   simp only [z0, z1, Act.put, z3, z4, z5]
   refine one_at 6 (by decide) (by kernel_rfl) (by rfl) (fun K hK => ?_)
   refine call_wp (by simp only [z0, z1]; go_simp; first | done | rfl | exact ⟨rfl, rfl⟩) ((wint_any x.am _ HX.out.2.1 (HT.out _ hS.2)).mono ?_)
   rintro e w4 ⟨⟨s2, rfl, hs2⟩, hb⟩
   have hT := SQ.mono _ _ hS hb
   replace hgv0 := hgv0.later hb
   replace ke0 := ke0.later hb
   refine ⟨_, rfl, hK.out _ _ hT (fun hT' => ?_)⟩
   clear hT' hS hK hb
   have hS := hT
   clear hT
   simp only [z0, z1, Act.put, z3, z4, z5]
   refine one_at 9 (by decide) (by kernel_rfl) (by rfl) (fun K hK => ?_)
   refine value_wp (by simp only [z0, z1]; go_simp; first | done | rfl | exact ⟨rfl, rfl⟩) ?_
   have hb : Below w4.heap.size w4 (w4.alloc (.cells #[.string s1, .string s2, .string x.cu] 9)) := (Below.refl _ _).alloc (Nat.le_refl _) _
   have hT := SQ.mono _ _ hS hb
   have hN : Bk.Blk (w4.alloc (.cells #[.string s1, .string s2, .string x.cu] 9)) w4.heap.size #[.string s1, .string s2, .string x.cu] 9 := Bk.Blk.nw10
   replace hgv0 := hgv0.later hb
   replace ke0 := ke0.later hb
   refine hK.out _ _ hT (fun hT' => ?_)
   clear hT' hK hS hb
   have hS := hT
   clear hT
   simp only [z0, z1, Act.put, z3, z4, z5]
   generalize (w4.alloc (.cells #[.string s1, .string s2, .string x.cu] 9)) = w5 at *
   obtain ⟨g5, eg5⟩ : ∃ g, g = w4.heap.size := ⟨_, rfl⟩
   rw [← eg5] at hN ⊢
   have hrow := rowS3 hN
   refine one_at 10 (by decide) (by kernel_rfl) (by rfl) (fun K hK => ?_)
   refine call_wp (by simp only [z0, z1]; go_simp; first | done | rfl | exact ⟨rfl, rfl⟩) ((pack_any (some ⟨g5, 0, none⟩) 3 [s1, s2, x.cu] 142 _ hrow (by simp) (by simp) (by have := HX.out.2.2; simp [sizes]; omega) (by decide) (HT.out _ hS.2)).mono ?_)
   rintro e w6 ⟨⟨s3, rfl, hs3⟩, hb⟩
   have hT := SQ.mono _ _ hS hb
   replace hgv0 := hgv0.later hb
   replace ke0 := ke0.later hb
   refine ⟨_, rfl, hK.out _ _ hT (fun hT' => ?_)⟩
   clear hT' hS hK hb
   have hS := hT
   clear hT
   simp only [z0, z1, Act.put, z3, z4, z5]
   clear hN hrow
   refine one_at 11 (by decide) (by kernel_rfl) (by rfl) (fun K hK => ?_)
   refine value_wp (by simp only [z0, z1]; go_simp; first | done | rfl | exact ⟨rfl, rfl⟩) ?_
   have hb : Below w6.heap.size w6 (w6.alloc (.cells #[.string s3] 9)) := (Below.refl _ _).alloc (Nat.le_refl _) _
   have hT := SQ.mono _ _ hS hb
   have hN : Bk.Blk (w6.alloc (.cells #[.string s3] 9)) w6.heap.size #[.string s3] 9 := Bk.Blk.nw10
   replace hgv0 := hgv0.later hb
   replace ke0 := ke0.later hb
   refine hK.out _ _ hT (fun hT' => ?_)
   clear hT' hK hS hb
   have hS := hT
   clear hT
   simp only [z0, z1, Act.put, z3, z4, z5]
   generalize (w6.alloc (.cells #[.string s3] 9)) = w7 at *
   obtain ⟨g7, eg7⟩ : ∃ g, g = w6.heap.size := ⟨_, rfl⟩
   rw [← eg7] at hN ⊢
   have hN7 := hN
   clear hN
   refine one_at 12 (by decide) (by kernel_rfl) (by rfl) (fun K hK => ?_)
   simp only [z0, z1]
   refine app_wp senc_len senc_one (by decide) (by decide) rfl str_info Tryz.underlying206 [s3] rfl (.tmp 16) (.tmp 27) rfl rfl hgv0 (some ⟨g7, 0, none⟩) 1 rfl (rowS1 hN7) (by simp) (by have := HV.out.1; simp; omega) (by have := ke0.lt; omega) ?_
   intro g8 c8 w8 h1 h2 h3 _
   have hT : SQ w g2 #[.int .i64 (x).ac, .int .i64 (x).am, .string (x).cu] 50 w8 := ⟨(h3.block g2 hS.1.lt (fun e => absurd (HOW.out g2 e.symm) (Nat.lt_irrefl _))).trans hS.1, hS.2.trans (h2.mono (by omega))⟩
   have ke8 : Bk.Blk w8 w.heap.size #[.int .i64 (e0).id, .int .i64 (e0).bo, .int .i64 (e0).va, .int .i64 (e0).ki, .int .i64 (e0).au, .int .i64 (e0).pe, .string (e0).ke, .string (e0).tx, .slice (e0).la (e0).lg.length (e0).lk, .int .u64 (e0).ch] 39 := (h2.block _ (by omega)).trans ke0
   rw [show (xs ++ [s3]).length = xs.length + 1 by simp] at h1
   have H1 := Lib.hid h1
   refine hK.out _ _ hT (fun hT' => ?_)
   clear hT' hK hS h1 h2 h3 ke0 hgv0
   have hS := hT
   clear hT
   simp only [z0, z1, Act.put, z3, z4, z5]
   refine tk 13 (by decide) ?_ hS (by kernel_rfl) (by kernel_rfl) (by kernel_rfl) (by rfl) (fun _ _ _ h => h) ?_ ?_
   rotate_left
   ·intro W hW
    clear hW
    simp only [z0, z1]
    go_simp
    first | done | with_reducible rfl
   simp only [z0, z1, Act.put, z3, z4, z5]
   refine wpAnyH_done (by kernel_rfl) ?_ _
   have c9 := hS.2
   clear hS
   go_wp2_with fail
   go_roundg (gk - 1)
   case measure => omega
   case rel => exact ⟨k + 1, xs ++ [s3], by omega, by go_num, by have := HV.out.1; simp; omega, by have := HV.out.2.1; rw [sizes_snoc]; simp at hs3; omega, H1.out, ke8, c9⟩
  ·obtain rfl : k = e0.lg.length := by omega
   obtain ⟨a3, c3, e3⟩ := HV.out.2.2.len
   subst e3
   have l0 := ke.c0
   have l1 := ke.c1
   have l2 := ke.c2
   have l3 := ke.c3
   have l4 := ke.c4
   have l5 := ke.c5
   go_wp2_with fail
   clear l0 l1 l2 l3 l4 l5
   have q0 := ix6_0 (.int .i64 e0.id) (.int .i64 e0.bo) (.int .i64 e0.va) (.int .i64 e0.ki) (.int .i64 e0.au) (.int .i64 e0.pe)
   have q1 := ix6_1 (.int .i64 e0.id) (.int .i64 e0.bo) (.int .i64 e0.va) (.int .i64 e0.ki) (.int .i64 e0.au) (.int .i64 e0.pe)
   have q2 := ix6_2 (.int .i64 e0.id) (.int .i64 e0.bo) (.int .i64 e0.va) (.int .i64 e0.ki) (.int .i64 e0.au) (.int .i64 e0.pe)
   have q3 := ix6_3 (.int .i64 e0.id) (.int .i64 e0.bo) (.int .i64 e0.va) (.int .i64 e0.ki) (.int .i64 e0.au) (.int .i64 e0.pe)
   have q4 := ix6_4 (.int .i64 e0.id) (.int .i64 e0.bo) (.int .i64 e0.va) (.int .i64 e0.ki) (.int .i64 e0.au) (.int .i64 e0.pe)
   have q5 := ix6_5 (.int .i64 e0.id) (.int .i64 e0.bo) (.int .i64 e0.va) (.int .i64 e0.ki) (.int .i64 e0.au) (.int .i64 e0.pe)
   go_loopg [4, 43] 6 (Ec2R w e0 (.slice a3 xs.length c3) xs)
   case atStart => exact ⟨0, [], by omega, rfl, rfl, by simp [sizes], GV.nil _ _, HV.out.2.2, (fun j _ h => by cases h), ke, hbr⟩
   case round =>
    clear ke hbr
    have HVV := Lib.hid (And.intro HV.out.1 HV.out.2.1)
    clear HV
    obtain ⟨k2, ys, hk2, rfl, hyl, hys, hgy, hgx, hse, ke, hbr2⟩ := hrel
    have HY := Lib.hid (And.intro hyl (And.intro hys (And.intro hgy (And.intro hgx hse))))
    clear hyl hys hgy hgx hse
    have h7 : k2 = 0 ∨ k2 = 1 ∨ k2 = 2 ∨ k2 = 3 ∨ k2 = 4 ∨ k2 = 5 ∨ k2 = 6 := by omega
    rcases h7 with rfl | rfl | rfl | rfl | rfl | rfl | rfl
    ·clear q1 q2 q3 q4 q5
     go_wp2_with fail
     refine (wint_any e0.id _ HG.out.n0 (HT.out _ hbr2)).mono ?_
     rintro e w3 ⟨⟨s1, rfl, hs1⟩, hb⟩
     have c3 := bl2 hb hbr2
     have hgy3 := HY.out.2.2.1.later hb
     have hgx3 := HY.out.2.2.2.1.later hb
     replace ke := ke.later hb
     have hz3 := ke.lt
     have hgy4 := hgy3.later (Below.alloc (Below.refl w3.heap.size w3) (Nat.le_refl _) (.cells #[.string s1] 9))
     have HGY := Lib.hid hgy4
     have HGX := Lib.hid hgx3
     clear hb hbr2 hgy3 hgx3 hgy4 q0
     go_wp2_with (refine app_wl senc_len senc_one (by decide) (by decide) rfl str_info Tryz.underlying206 [s1] rfl (.tmp 46) (.tmp 49) rfl rfl HGY.out (some ⟨w3.heap.size, 0, none⟩) 1 rfl (rowS1 Bk.Blk.nw10) (by simp) (by have := HY.out.1; simp; omega) (by simp; omega) ?_)
     intro g8 c8 w8 h1 h2 h3 h4
     have cw8 : Below w.heap.size w w8 := (Below.alloc c3 (by omega) _).trans (h2.mono (by omega))
     have ke8 : Bk.Blk w8 w.heap.size #[.int .i64 (e0).id, .int .i64 (e0).bo, .int .i64 (e0).va, .int .i64 (e0).ki, .int .i64 (e0).au, .int .i64 (e0).pe, .string (e0).ke, .string (e0).tx, .slice (e0).la (e0).lg.length (e0).lk, .int .u64 (e0).ch] 39 := (h2.block _ (by omega)).trans (Bk.Blk.alloc ke)
     have hgx8 := gv_keep (HGX.out.later (Below.alloc (Below.refl w3.heap.size w3) (Nat.le_refl _) (.cells #[.string s1] 9))) h3 (fun j hj => HY.out.2.2.2.2 j hj)
     have HSE := Lib.hid (show ∀ j, (_ : Value).ownBlock = some j → (Value.slice (some ⟨g8, 0, none⟩) (ys.length + 1) c8).ownBlock ≠ some j from fun j hj e => by
      have hj2 := (HGX.out.lt j hj).1
      have hj3 := HY.out.2.2.2.2 j hj
      have e8 : g8 = j := by simpa [Value.ownBlock] using e
      rcases h4 with h4 | h4
      ·exact hj3 (by rw [e8] at h4; exact h4)
      ·first | omega | (simp at h4; omega))
     try rw [show (ys ++ [s1]).length = ys.length + 1 by simp] at h1
     have H1 := Lib.hid h1
     have H2 := Lib.hid hgx8
     clear h1 h2 h3 h4 c3 ke hgx8
     go_wp2_with fail
     go_roundg (gk - 1)
     case measure => omega
     case rel => exact ⟨1, ys ++ [s1], by omega, by first | rfl | go_num, by have := HY.out.1; rw [List.length_append]; simp only [List.length_cons, List.length_nil]; omega, by have := HY.out.2.1; have h9 := HY.out.1; rw [sizes_snoc]; first | omega | (have e9 : ys = [] := by (first | exact h9 | exact List.eq_nil_of_length_eq_zero h9); rw [e9]; simp [sizes]; omega), H1.out, H2.out, HSE.out, ke8, cw8⟩
    ·clear q0 q2 q3 q4 q5
     go_wp2_with fail
     refine (wint_any e0.bo _ HG.out.n1 (HT.out _ hbr2)).mono ?_
     rintro e w3 ⟨⟨s1, rfl, hs1⟩, hb⟩
     have c3 := bl2 hb hbr2
     have hgy3 := HY.out.2.2.1.later hb
     have hgx3 := HY.out.2.2.2.1.later hb
     replace ke := ke.later hb
     have hz3 := ke.lt
     have hgy4 := hgy3.later (Below.alloc (Below.refl w3.heap.size w3) (Nat.le_refl _) (.cells #[.string s1] 9))
     have HGY := Lib.hid hgy4
     have HGX := Lib.hid hgx3
     clear hb hbr2 hgy3 hgx3 hgy4 q1
     go_wp2_with (refine app_wl senc_len senc_one (by decide) (by decide) rfl str_info Tryz.underlying206 [s1] rfl (.tmp 46) (.tmp 49) rfl rfl HGY.out (some ⟨w3.heap.size, 0, none⟩) 1 rfl (rowS1 Bk.Blk.nw10) (by simp) (by have := HY.out.1; simp; omega) (by simp; omega) ?_)
     intro g8 c8 w8 h1 h2 h3 h4
     have cw8 : Below w.heap.size w w8 := (Below.alloc c3 (by omega) _).trans (h2.mono (by omega))
     have ke8 : Bk.Blk w8 w.heap.size #[.int .i64 (e0).id, .int .i64 (e0).bo, .int .i64 (e0).va, .int .i64 (e0).ki, .int .i64 (e0).au, .int .i64 (e0).pe, .string (e0).ke, .string (e0).tx, .slice (e0).la (e0).lg.length (e0).lk, .int .u64 (e0).ch] 39 := (h2.block _ (by omega)).trans (Bk.Blk.alloc ke)
     have hgx8 := gv_keep (HGX.out.later (Below.alloc (Below.refl w3.heap.size w3) (Nat.le_refl _) (.cells #[.string s1] 9))) h3 (fun j hj => HY.out.2.2.2.2 j hj)
     have HSE := Lib.hid (show ∀ j, (_ : Value).ownBlock = some j → (Value.slice (some ⟨g8, 0, none⟩) (ys.length + 1) c8).ownBlock ≠ some j from fun j hj e => by
      have hj2 := (HGX.out.lt j hj).1
      have hj3 := HY.out.2.2.2.2 j hj
      have e8 : g8 = j := by simpa [Value.ownBlock] using e
      rcases h4 with h4 | h4
      ·exact hj3 (by rw [e8] at h4; exact h4)
      ·first | omega | (simp at h4; omega))
     try rw [show (ys ++ [s1]).length = ys.length + 1 by simp] at h1
     have H1 := Lib.hid h1
     have H2 := Lib.hid hgx8
     clear h1 h2 h3 h4 c3 ke hgx8
     go_wp2_with fail
     go_roundg (gk - 1)
     case measure => omega
     case rel => exact ⟨2, ys ++ [s1], by omega, by first | rfl | go_num, by have := HY.out.1; rw [List.length_append]; simp only [List.length_cons, List.length_nil]; omega, by have := HY.out.2.1; have h9 := HY.out.1; rw [sizes_snoc]; first | omega | (have e9 : ys = [] := by (first | exact h9 | exact List.eq_nil_of_length_eq_zero h9); rw [e9]; simp [sizes]; omega), H1.out, H2.out, HSE.out, ke8, cw8⟩
    ·clear q0 q1 q3 q4 q5
     go_wp2_with fail
     refine (wint_any e0.va _ HG.out.n2 (HT.out _ hbr2)).mono ?_
     rintro e w3 ⟨⟨s1, rfl, hs1⟩, hb⟩
     have c3 := bl2 hb hbr2
     have hgy3 := HY.out.2.2.1.later hb
     have hgx3 := HY.out.2.2.2.1.later hb
     replace ke := ke.later hb
     have hz3 := ke.lt
     have hgy4 := hgy3.later (Below.alloc (Below.refl w3.heap.size w3) (Nat.le_refl _) (.cells #[.string s1] 9))
     have HGY := Lib.hid hgy4
     have HGX := Lib.hid hgx3
     clear hb hbr2 hgy3 hgx3 hgy4 q2
     go_wp2_with (refine app_wl senc_len senc_one (by decide) (by decide) rfl str_info Tryz.underlying206 [s1] rfl (.tmp 46) (.tmp 49) rfl rfl HGY.out (some ⟨w3.heap.size, 0, none⟩) 1 rfl (rowS1 Bk.Blk.nw10) (by simp) (by have := HY.out.1; simp; omega) (by simp; omega) ?_)
     intro g8 c8 w8 h1 h2 h3 h4
     have cw8 : Below w.heap.size w w8 := (Below.alloc c3 (by omega) _).trans (h2.mono (by omega))
     have ke8 : Bk.Blk w8 w.heap.size #[.int .i64 (e0).id, .int .i64 (e0).bo, .int .i64 (e0).va, .int .i64 (e0).ki, .int .i64 (e0).au, .int .i64 (e0).pe, .string (e0).ke, .string (e0).tx, .slice (e0).la (e0).lg.length (e0).lk, .int .u64 (e0).ch] 39 := (h2.block _ (by omega)).trans (Bk.Blk.alloc ke)
     have hgx8 := gv_keep (HGX.out.later (Below.alloc (Below.refl w3.heap.size w3) (Nat.le_refl _) (.cells #[.string s1] 9))) h3 (fun j hj => HY.out.2.2.2.2 j hj)
     have HSE := Lib.hid (show ∀ j, (_ : Value).ownBlock = some j → (Value.slice (some ⟨g8, 0, none⟩) (ys.length + 1) c8).ownBlock ≠ some j from fun j hj e => by
      have hj2 := (HGX.out.lt j hj).1
      have hj3 := HY.out.2.2.2.2 j hj
      have e8 : g8 = j := by simpa [Value.ownBlock] using e
      rcases h4 with h4 | h4
      ·exact hj3 (by rw [e8] at h4; exact h4)
      ·first | omega | (simp at h4; omega))
     try rw [show (ys ++ [s1]).length = ys.length + 1 by simp] at h1
     have H1 := Lib.hid h1
     have H2 := Lib.hid hgx8
     clear h1 h2 h3 h4 c3 ke hgx8
     go_wp2_with fail
     go_roundg (gk - 1)
     case measure => omega
     case rel => exact ⟨3, ys ++ [s1], by omega, by first | rfl | go_num, by have := HY.out.1; rw [List.length_append]; simp only [List.length_cons, List.length_nil]; omega, by have := HY.out.2.1; have h9 := HY.out.1; rw [sizes_snoc]; first | omega | (have e9 : ys = [] := by (first | exact h9 | exact List.eq_nil_of_length_eq_zero h9); rw [e9]; simp [sizes]; omega), H1.out, H2.out, HSE.out, ke8, cw8⟩
    ·clear q0 q1 q2 q4 q5
     go_wp2_with fail
     refine (wint_any e0.ki _ HG.out.n3 (HT.out _ hbr2)).mono ?_
     rintro e w3 ⟨⟨s1, rfl, hs1⟩, hb⟩
     have c3 := bl2 hb hbr2
     have hgy3 := HY.out.2.2.1.later hb
     have hgx3 := HY.out.2.2.2.1.later hb
     replace ke := ke.later hb
     have hz3 := ke.lt
     have hgy4 := hgy3.later (Below.alloc (Below.refl w3.heap.size w3) (Nat.le_refl _) (.cells #[.string s1] 9))
     have HGY := Lib.hid hgy4
     have HGX := Lib.hid hgx3
     clear hb hbr2 hgy3 hgx3 hgy4 q3
     go_wp2_with (refine app_wl senc_len senc_one (by decide) (by decide) rfl str_info Tryz.underlying206 [s1] rfl (.tmp 46) (.tmp 49) rfl rfl HGY.out (some ⟨w3.heap.size, 0, none⟩) 1 rfl (rowS1 Bk.Blk.nw10) (by simp) (by have := HY.out.1; simp; omega) (by simp; omega) ?_)
     intro g8 c8 w8 h1 h2 h3 h4
     have cw8 : Below w.heap.size w w8 := (Below.alloc c3 (by omega) _).trans (h2.mono (by omega))
     have ke8 : Bk.Blk w8 w.heap.size #[.int .i64 (e0).id, .int .i64 (e0).bo, .int .i64 (e0).va, .int .i64 (e0).ki, .int .i64 (e0).au, .int .i64 (e0).pe, .string (e0).ke, .string (e0).tx, .slice (e0).la (e0).lg.length (e0).lk, .int .u64 (e0).ch] 39 := (h2.block _ (by omega)).trans (Bk.Blk.alloc ke)
     have hgx8 := gv_keep (HGX.out.later (Below.alloc (Below.refl w3.heap.size w3) (Nat.le_refl _) (.cells #[.string s1] 9))) h3 (fun j hj => HY.out.2.2.2.2 j hj)
     have HSE := Lib.hid (show ∀ j, (_ : Value).ownBlock = some j → (Value.slice (some ⟨g8, 0, none⟩) (ys.length + 1) c8).ownBlock ≠ some j from fun j hj e => by
      have hj2 := (HGX.out.lt j hj).1
      have hj3 := HY.out.2.2.2.2 j hj
      have e8 : g8 = j := by simpa [Value.ownBlock] using e
      rcases h4 with h4 | h4
      ·exact hj3 (by rw [e8] at h4; exact h4)
      ·first | omega | (simp at h4; omega))
     try rw [show (ys ++ [s1]).length = ys.length + 1 by simp] at h1
     have H1 := Lib.hid h1
     have H2 := Lib.hid hgx8
     clear h1 h2 h3 h4 c3 ke hgx8
     go_wp2_with fail
     go_roundg (gk - 1)
     case measure => omega
     case rel => exact ⟨4, ys ++ [s1], by omega, by first | rfl | go_num, by have := HY.out.1; rw [List.length_append]; simp only [List.length_cons, List.length_nil]; omega, by have := HY.out.2.1; have h9 := HY.out.1; rw [sizes_snoc]; first | omega | (have e9 : ys = [] := by (first | exact h9 | exact List.eq_nil_of_length_eq_zero h9); rw [e9]; simp [sizes]; omega), H1.out, H2.out, HSE.out, ke8, cw8⟩
    ·clear q0 q1 q2 q3 q5
     go_wp2_with fail
     refine (wint_any e0.au _ HG.out.n4 (HT.out _ hbr2)).mono ?_
     rintro e w3 ⟨⟨s1, rfl, hs1⟩, hb⟩
     have c3 := bl2 hb hbr2
     have hgy3 := HY.out.2.2.1.later hb
     have hgx3 := HY.out.2.2.2.1.later hb
     replace ke := ke.later hb
     have hz3 := ke.lt
     have hgy4 := hgy3.later (Below.alloc (Below.refl w3.heap.size w3) (Nat.le_refl _) (.cells #[.string s1] 9))
     have HGY := Lib.hid hgy4
     have HGX := Lib.hid hgx3
     clear hb hbr2 hgy3 hgx3 hgy4 q4
     go_wp2_with (refine app_wl senc_len senc_one (by decide) (by decide) rfl str_info Tryz.underlying206 [s1] rfl (.tmp 46) (.tmp 49) rfl rfl HGY.out (some ⟨w3.heap.size, 0, none⟩) 1 rfl (rowS1 Bk.Blk.nw10) (by simp) (by have := HY.out.1; simp; omega) (by simp; omega) ?_)
     intro g8 c8 w8 h1 h2 h3 h4
     have cw8 : Below w.heap.size w w8 := (Below.alloc c3 (by omega) _).trans (h2.mono (by omega))
     have ke8 : Bk.Blk w8 w.heap.size #[.int .i64 (e0).id, .int .i64 (e0).bo, .int .i64 (e0).va, .int .i64 (e0).ki, .int .i64 (e0).au, .int .i64 (e0).pe, .string (e0).ke, .string (e0).tx, .slice (e0).la (e0).lg.length (e0).lk, .int .u64 (e0).ch] 39 := (h2.block _ (by omega)).trans (Bk.Blk.alloc ke)
     have hgx8 := gv_keep (HGX.out.later (Below.alloc (Below.refl w3.heap.size w3) (Nat.le_refl _) (.cells #[.string s1] 9))) h3 (fun j hj => HY.out.2.2.2.2 j hj)
     have HSE := Lib.hid (show ∀ j, (_ : Value).ownBlock = some j → (Value.slice (some ⟨g8, 0, none⟩) (ys.length + 1) c8).ownBlock ≠ some j from fun j hj e => by
      have hj2 := (HGX.out.lt j hj).1
      have hj3 := HY.out.2.2.2.2 j hj
      have e8 : g8 = j := by simpa [Value.ownBlock] using e
      rcases h4 with h4 | h4
      ·exact hj3 (by rw [e8] at h4; exact h4)
      ·first | omega | (simp at h4; omega))
     try rw [show (ys ++ [s1]).length = ys.length + 1 by simp] at h1
     have H1 := Lib.hid h1
     have H2 := Lib.hid hgx8
     clear h1 h2 h3 h4 c3 ke hgx8
     go_wp2_with fail
     go_roundg (gk - 1)
     case measure => omega
     case rel => exact ⟨5, ys ++ [s1], by omega, by first | rfl | go_num, by have := HY.out.1; rw [List.length_append]; simp only [List.length_cons, List.length_nil]; omega, by have := HY.out.2.1; have h9 := HY.out.1; rw [sizes_snoc]; first | omega | (have e9 : ys = [] := by (first | exact h9 | exact List.eq_nil_of_length_eq_zero h9); rw [e9]; simp [sizes]; omega), H1.out, H2.out, HSE.out, ke8, cw8⟩
    ·clear q0 q1 q2 q3 q4
     go_wp2_with fail
     refine (wint_any e0.pe _ HG.out.n5 (HT.out _ hbr2)).mono ?_
     rintro e w3 ⟨⟨s1, rfl, hs1⟩, hb⟩
     have c3 := bl2 hb hbr2
     have hgy3 := HY.out.2.2.1.later hb
     have hgx3 := HY.out.2.2.2.1.later hb
     replace ke := ke.later hb
     have hz3 := ke.lt
     have hgy4 := hgy3.later (Below.alloc (Below.refl w3.heap.size w3) (Nat.le_refl _) (.cells #[.string s1] 9))
     have HGY := Lib.hid hgy4
     have HGX := Lib.hid hgx3
     clear hb hbr2 hgy3 hgx3 hgy4 q5
     go_wp2_with (refine app_wl senc_len senc_one (by decide) (by decide) rfl str_info Tryz.underlying206 [s1] rfl (.tmp 46) (.tmp 49) rfl rfl HGY.out (some ⟨w3.heap.size, 0, none⟩) 1 rfl (rowS1 Bk.Blk.nw10) (by simp) (by have := HY.out.1; simp; omega) (by simp; omega) ?_)
     intro g8 c8 w8 h1 h2 h3 h4
     have cw8 : Below w.heap.size w w8 := (Below.alloc c3 (by omega) _).trans (h2.mono (by omega))
     have ke8 : Bk.Blk w8 w.heap.size #[.int .i64 (e0).id, .int .i64 (e0).bo, .int .i64 (e0).va, .int .i64 (e0).ki, .int .i64 (e0).au, .int .i64 (e0).pe, .string (e0).ke, .string (e0).tx, .slice (e0).la (e0).lg.length (e0).lk, .int .u64 (e0).ch] 39 := (h2.block _ (by omega)).trans (Bk.Blk.alloc ke)
     have hgx8 := gv_keep (HGX.out.later (Below.alloc (Below.refl w3.heap.size w3) (Nat.le_refl _) (.cells #[.string s1] 9))) h3 (fun j hj => HY.out.2.2.2.2 j hj)
     have HSE := Lib.hid (show ∀ j, (_ : Value).ownBlock = some j → (Value.slice (some ⟨g8, 0, none⟩) (ys.length + 1) c8).ownBlock ≠ some j from fun j hj e => by
      have hj2 := (HGX.out.lt j hj).1
      have hj3 := HY.out.2.2.2.2 j hj
      have e8 : g8 = j := by simpa [Value.ownBlock] using e
      rcases h4 with h4 | h4
      ·exact hj3 (by rw [e8] at h4; exact h4)
      ·first | omega | (simp at h4; omega))
     try rw [show (ys ++ [s1]).length = ys.length + 1 by simp] at h1
     have H1 := Lib.hid h1
     have H2 := Lib.hid hgx8
     clear h1 h2 h3 h4 c3 ke hgx8
     go_wp2_with fail
     go_roundg (gk - 1)
     case measure => omega
     case rel => exact ⟨6, ys ++ [s1], by omega, by first | rfl | go_num, by have := HY.out.1; rw [List.length_append]; simp only [List.length_cons, List.length_nil]; omega, by have := HY.out.2.1; have h9 := HY.out.1; rw [sizes_snoc]; first | omega | (have e9 : ys = [] := by (first | exact h9 | exact List.eq_nil_of_length_eq_zero h9); rw [e9]; simp [sizes]; omega), H1.out, H2.out, HSE.out, ke8, cw8⟩
    ·obtain ⟨a4, c4, e4⟩ := HY.out.2.2.1.len
     subst e4
     have hgv0 := HY.out.2.2.1.later (Below.drew (Below.refl wr.heap.size wr))
     obtain ⟨a5, c5, e5, hrow5, _⟩ := HY.out.2.2.2.1.row
     have hrow : RowIn senc wr a3 xs := by
      have := Value.slice.inj e5
      rw [this.1]; exact hrow5
     replace hrow := hrow.later (Below.drew (Below.refl wr.heap.size wr))
     clear e5 hrow5 q0 q1 q2 q3 q4 q5
     go_wp2_with fail
     (try simp only [Act.put])
     have hS0 : (SQ w w.heap.size #[.int .i64 (e0).id, .int .i64 (e0).bo, .int .i64 (e0).va, .int .i64 (e0).ki, .int .i64 (e0).au, .int .i64 (e0).pe, .string (e0).ke, .string (e0).tx, .slice (e0).la (e0).lg.length (e0).lk, .int .u64 (e0).ch] 39) wr.drew := ⟨ke.drew, hbr2.drew⟩
     clear ke hbr2
     refine wp_region_held_drew (S := (SQ w w.heap.size #[.int .i64 (e0).id, .int .i64 (e0).bo, .int .i64 (e0).va, .int .i64 (e0).ki, .int .i64 (e0).au, .int .i64 (e0).pe, .string (e0).ke, .string (e0).tx, .slice (e0).la (e0).lg.length (e0).lk, .int .u64 (e0).ch] 39)) (by kernel_rfl) hS0 (fun hS => ?_)
     clear hS0
     refine tk 0 (by decide) ?_ hS (by kernel_rfl) (by kernel_rfl) (by kernel_rfl) (by rfl) (fun _ _ _ h => h) ?_ ?_
     rotate_left
     ·intro W hW
      have q := hW.1.c6; have q2 := hW.1.c7
      clear hW
      simp only [z0, z1]
      go_simp
      first | done | with_reducible rfl
     simp only [z0, z1, Act.put, z3, z4, z5]
     refine tk 1 (by decide) ?_ hS (by kernel_rfl) (by kernel_rfl) (by kernel_rfl) (by rfl) (fun _ _ _ h => h) ?_ ?_
     rotate_left
     ·intro W hW
      have q := hW.1.c6; have q2 := hW.1.c7
      clear hW
      simp only [z0, z1]
      go_simp
      first | done | with_reducible rfl
     simp only [z0, z1, Act.put, z3, z4, z5]
     refine tk 2 (by decide) ?_ hS (by kernel_rfl) (by kernel_rfl) (by kernel_rfl) (by rfl) (fun _ _ _ h => h) ?_ ?_
     rotate_left
     ·intro W hW
      have q := hW.1.c6; have q2 := hW.1.c7
      clear hW
      simp only [z0, z1]
      go_simp
      first | done | with_reducible rfl
     simp only [z0, z1, Act.put, z3, z4, z5]
     refine tk 3 (by decide) ?_ hS (by kernel_rfl) (by kernel_rfl) (by kernel_rfl) (by rfl) (fun _ _ _ h => h) ?_ ?_
     rotate_left
     ·intro W hW
      have q := hW.1.c6; have q2 := hW.1.c7
      clear hW
      simp only [z0, z1]
      go_simp
      first | done | with_reducible rfl
     simp only [z0, z1, Act.put, z3, z4, z5]
     refine tk 4 (by decide) ?_ hS (by kernel_rfl) (by kernel_rfl) (by kernel_rfl) (by rfl) (fun _ _ _ h => h) ?_ ?_
     rotate_left
     ·intro W hW
      have q := hW.1.c6; have q2 := hW.1.c7
      clear hW
      simp only [z0, z1]
      go_simp
      first | done | with_reducible rfl
     simp only [z0, z1, Act.put, z3, z4, z5]
     refine tk 5 (by decide) ?_ hS (by kernel_rfl) (by kernel_rfl) (by kernel_rfl) (by rfl) (fun _ _ _ h => h) ?_ ?_
     rotate_left
     ·intro W hW
      have q := hW.1.c6; have q2 := hW.1.c7
      clear hW
      simp only [z0, z1]
      go_simp
      first | done | with_reducible rfl
     simp only [z0, z1, Act.put, z3, z4, z5]
     refine one_at 6 (by decide) (by kernel_rfl) (by rfl) (fun K hK => ?_)
     refine call_wp (by simp only [z0, z1]; go_simp; first | done | rfl | exact ⟨rfl, rfl⟩) ((pack_any a3 c3 xs 2496 _ hrow (by have := HVV.out.1; omega) (by have := HVV.out.1; omega) (by have := HVV.out.2; omega) (by decide) (HT.out _ hS.2)).mono ?_)
     rintro e w3 ⟨⟨p1, rfl, hp1⟩, hb⟩
     have hT := SQ.mono _ _ hS hb
     replace hgv0 := hgv0.later hb
     refine ⟨_, rfl, hK.out _ _ hT (fun hT' => ?_)⟩
     clear hT' hS hK hb
     have hS := hT
     clear hT
     simp only [z0, z1, Act.put, z3, z4, z5]
     clear hrow
     refine one_at 7 (by decide) (by kernel_rfl) (by rfl) (fun K hK => ?_)
     refine value_wp (by simp only [z0, z1]; go_simp; first | done | rfl | exact ⟨rfl, rfl⟩) ?_
     have hb : Below w3.heap.size w3 (w3.alloc (.cells #[.string e0.ke, .string e0.tx, .string p1] 9)) := (Below.refl _ _).alloc (Nat.le_refl _) _
     have hT := SQ.mono _ _ hS hb
     have hN : Bk.Blk (w3.alloc (.cells #[.string e0.ke, .string e0.tx, .string p1] 9)) w3.heap.size _ 9 := Bk.Blk.nw10
     replace hgv0 := hgv0.later hb
     refine hK.out _ _ hT (fun hT' => ?_)
     clear hT' hK hS hb
     have hS := hT
     clear hT
     simp only [z0, z1, Act.put, z3, z4, z5]
     generalize (w3.alloc (.cells _ 9)) = w5 at *
     obtain ⟨g5, eg5⟩ : ∃ g, g = w3.heap.size := ⟨_, rfl⟩
     rw [← eg5] at hN ⊢
     refine one_at 8 (by decide) (by kernel_rfl) (by rfl) (fun K hK => ?_)
     simp only [z0, z1]
     refine app_wp senc_len senc_one (by decide) (by decide) rfl str_info Tryz.underlying206 [e0.ke, e0.tx, p1] rfl (.tmp 52) (.tmp 59) rfl rfl hgv0 (some ⟨g5, 0, none⟩) 3 rfl (rowS3 hN) (by simp) (by have := HY.out.1; simp; omega) (by have := hS.1.lt; omega) ?_
     intro g8 c8 w8 h1 h2 h3 _
     have hT : (SQ w w.heap.size #[.int .i64 (e0).id, .int .i64 (e0).bo, .int .i64 (e0).va, .int .i64 (e0).ki, .int .i64 (e0).au, .int .i64 (e0).pe, .string (e0).ke, .string (e0).tx, .slice (e0).la (e0).lg.length (e0).lk, .int .u64 (e0).ch] 39) w8 := ⟨(h2.block _ (by omega)).trans hS.1, hS.2.trans (h2.mono (by omega))⟩
     obtain ⟨a9, c9, e9, hrow9, _⟩ := h1.row
     have hrow : RowIn senc w8 (some ⟨g8, 0, none⟩) (ys ++ [e0.ke, e0.tx, p1]) := by
      have := Value.slice.inj e9
      rw [this.1]; exact hrow9
     rw [show (ys ++ [e0.ke, e0.tx, p1]).length = 9 by have := HY.out.1; simp; omega]
     refine hK.out _ _ hT (fun hT' => ?_)
     clear hT' hK hS h1 h2 h3 e9 hrow9 hN
     have hS := hT
     clear hT
     simp only [z0, z1, Act.put, z3, z4, z5]
     refine one_at 9 (by decide) (by kernel_rfl) (by rfl) (fun K hK => ?_)
     refine call_wp (by simp only [z0, z1]; go_simp; first | done | rfl | exact ⟨rfl, rfl⟩) (((show Calls Tryz.prog 137 #[.slice (some ⟨g8, 0, none⟩) 9 c8] w8 _ from (show (ys ++ [e0.ke, e0.tx, p1]).length = 9 by have := HY.out.1; simp; omega) ▸ pack_any (some ⟨g8, 0, none⟩) c8 (ys ++ [e0.ke, e0.tx, p1]) 9000 w8 hrow (by simp) (by have := HY.out.1; simp; omega) (by have := HY.out.2.1; have := HG.out.ke; have := HG.out.tx; have := HVV.out.1; rw [sizes_app]; simp [sizes] at hp1 ⊢; simp [sizes] at *; omega) (by decide) (HT.out _ hS.2))).mono ?_)
     rintro e w9 ⟨⟨p2, rfl, hp2⟩, hb⟩
     have hT := SQ.mono _ _ hS hb
     refine ⟨_, rfl, hK.out _ _ hT (fun hT' => ?_)⟩
     clear hT' hS hK hb
     have hS := hT
     clear hT
     simp only [z0, z1, Act.put, z3, z4, z5]
     refine tk 10 (by decide) ?_ hS (by kernel_rfl) (by kernel_rfl) (by kernel_rfl) (by rfl) (fun _ _ _ h => h) ?_ ?_
     rotate_left
     ·intro W hW
      clear hW
      simp only [z0, z1]
      go_simp
      first | done | with_reducible rfl
     simp only [z0, z1, Act.put, z3, z4, z5]
     refine wpAnyH_done (by kernel_rfl) ?_ _
     have c9 := hS.2
     clear hS
     go_wp2_with fail
     go_ret
     exact ⟨⟨p2, rfl, by have := HY.out.1; simp at hp2; omega⟩, c9⟩
end Go.Proofs.YtjhpiclnpmdjnaaGreatDoor.Bm
