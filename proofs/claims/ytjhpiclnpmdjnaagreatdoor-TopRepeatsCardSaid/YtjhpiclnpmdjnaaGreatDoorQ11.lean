/-
  Parts of the proof: B6, B7.
-/
import Derived.Test.YtjhpiclnpmdjnaaGreatDoorQ06
import Derived.Test.YtjhpiclnpmdjnaaGreatDoorQ05
import Derived.Deep.AppendLies
import Derived.Laws.Cover1
namespace Go.Proofs.YtjhpiclnpmdjnaaGreatDoor.Bm
open Go Go.RowKit
open Go.Proofs.YtjhpiclnpmdjnaaGreatDoor
open Go.Proofs.YtjhpiclnpmdjnaaGreatDoor.Ln (flat flat_len flat_get flat_mem RowIn OwnR Idx bl2 results2_cell Blk_setRow_same Blk_setRow_ne Below_setRow take_at one_at call_wp value_wp SB tk ts z0 z1 z2 z3 z4 z5)
open Go.Proofs.YtjhpiclnpmdjnaaGreatDoor.Sr (GV)
set_option linter.unusedSimpArgs false
set_option linter.unusedVariables false
set_option maxRecDepth 100000

theorem app_wp {α : Type} {enc : α → List Value} {k : Nat} {T ST : TypeId} {z : Value} {bytes : Nat} (hk : ∀ x, (enc x).length = k) (he : ∀ x, ∀ u ∈ enc x, u.oneCell' = true) (k0 : 0 < k) (kb : bytes ≤ 1024) (hzs : z.cells.size = k)
  (hinfo : (Tryz.prog.info? T).map (fun i => (i.zero, i.size, i.bytes)) = some (some z, k, bytes)) (hu : Tryz.prog.underlying ST = some (.slice T))
  {o : Oper} {a : Act} {K : Act → World → Prop} {Q : Exit → Act → World → Prop} {W : World} {B : Nat} {v : Value} {xs : List α} (ys : List α) (hgd : o.guard = none) (s y : Operand)
  (ho : o.op = .call { callee := .builtin .append, args := #[s, y], argTypes := #[ST, ST] }) (hs : a.eval s = v) (hr : GV enc k T W B v xs)
  (ay : Option Addr) (cy : Nat) (hy : a.eval y = .slice ay ys.length cy) (hyr : RowIn enc W ay ys) (h0 : 0 < ys.length) (hl : xs.length + ys.length ≤ 1000000) (hB : B ≤ W.heap.size)
  (h : ∀ g' c' w', GV enc k T w' B (.slice (some ⟨g', 0, none⟩) (xs ++ ys).length c') (xs ++ ys) → Below B W w' → W.grownBy w' v.ownBlock → (v.ownBlock = some g' ∨ g' = W.heap.size) → K (a.put o.dst (.slice (some ⟨g', 0, none⟩) (xs ++ ys).length c')) w') : Oper.wp Tryz.prog o a W K Q := by
 obtain ⟨i, hi, hzz⟩ := Option.map_eq_some_iff.1 hinfo
 simp only [Prod.mk.injEq] at hzz
 obtain ⟨hz, hsz, hby⟩ := hzz
 have hw : Region.wanted o (yielded #[] a.tmps) = true := by simp [Region.wanted, hgd]
 obtain ⟨b, off, rfl, hc⟩ := hyr h0
 have H := step_append_lies (P := Tryz.prog) (ops := #[]) (o := o) (a := a) (w := W) (K := K) (Q := Q) (E := False) hgd s y ST ho B T i z k bytes hu hi hz hsz hby hzs k0 _ xs.length (flat enc xs) hs hr.1 ⟨b, off, none⟩ ys.length cy (flat enc ys) hy (flat_len hk ys)
  (fun j u hj => by rw [show (⟨b, off, none⟩ : Addr).add j = ⟨b, off + j, none⟩ from Go.WideShapes.add_plain ..]; exact hc j u hj) (Ln.flat_mem he ys) h0 (by unfold maxLen; omega)
  (by calc (xs.length + ys.length) * bytes ≤ 1000000 * 1024 := Nat.mul_le_mul hl kb
     _ ≤ 140737488355328 := by decide) hB _ rfl (fun g' c' w' hown hgr hat hlt => by
   have e : flat enc xs ++ flat enc ys = flat enc (xs ++ ys) := by simp [flat]
   rw [e, show xs.length + ys.length = (xs ++ ys).length by simp] at hown
   rw [show xs.length + ys.length = (xs ++ ys).length by simp]
   exact h g' c' w' ⟨hown, _, _, rfl⟩ ((Below.refl _ _).grown hgr hB (fun j hj => (hr.lt j hj).2)) hgr hat)
 rw [if_pos hw] at H
 exact H
theorem app_wl {α : Type} {enc : α → List Value} {k : Nat} {T ST : TypeId} {z : Value} {bytes : Nat} (hk : ∀ x, (enc x).length = k) (he : ∀ x, ∀ u ∈ enc x, u.oneCell' = true) (k0 : 0 < k) (kb : bytes ≤ 1024) (hzs : z.cells.size = k)
  (hinfo : (Tryz.prog.info? T).map (fun i => (i.zero, i.size, i.bytes)) = some (some z, k, bytes)) (hu : Tryz.prog.underlying ST = some (.slice T))
  {ops : Array Oper} {rest : List Oper} {o : Oper} {a : Act} {Q : Exit → Act → World → Prop} {W : World} {B : Nat} {v : Value} {xs : List α} (ys : List α) (hgd : o.guard = none) (s y : Operand)
  (ho : o.op = .call { callee := .builtin .append, args := #[s, y], argTypes := #[ST, ST] }) (hs : a.eval s = v) (hr : GV enc k T W B v xs)
  (ay : Option Addr) (cy : Nat) (hy : a.eval y = .slice ay ys.length cy) (hyr : RowIn enc W ay ys) (h0 : 0 < ys.length) (hl : xs.length + ys.length ≤ 1000000) (hB : B ≤ W.heap.size)
  (h : ∀ g' c' w', GV enc k T w' B (.slice (some ⟨g', 0, none⟩) (xs ++ ys).length c') (xs ++ ys) → Below B W w' → W.grownBy w' v.ownBlock → (v.ownBlock = some g' ∨ g' = W.heap.size) → wpList Tryz.prog ops Q rest (a.put o.dst (.slice (some ⟨g', 0, none⟩) (xs ++ ys).length c')) w') : wpList Tryz.prog ops Q (o :: rest) a W :=
 wpList_plain hgd fun _ hK => app_wp hk he k0 kb hzs hinfo hu ys hgd s y ho hs hr ay cy hy hyr h0 hl hB fun g' c' w' h1 h2 h3 h4 => hK _ _ (h g' c' w' h1 h2 h3 h4)

def cmpS (a b : ByteArray) : Int := if Op.bytesLess a.toList b.toList then -1 else if a.toList == b.toList then 0 else 1
def cmpI (a b : Int) : Int := if a < b then -1 else if b < a then 1 else 0
theorem nanS_any (s : ByteArray) (w : World) : Calls Tryz.prog 116 #[.string s] w fun e w' => e = .returned (.bool false) ∧ w = w' := by
 go_enter Tryz.func116, Tryz.ntmps116
 go_wp2_with fail
 go_ret
 exact ⟨by first | rfl | simp, rfl⟩
theorem nanI_any (s : Int) (w : World) : Calls Tryz.prog 173 #[.int .i64 s] w fun e w' => e = .returned (.bool false) ∧ w = w' := by
 go_enter Tryz.func173, Tryz.ntmps173
 go_wp2_with fail
 go_ret
 exact ⟨by first | rfl | simp, rfl⟩
set_option maxHeartbeats 4000000 in
theorem cmpS_any (a b : ByteArray) (w : World) : Calls Tryz.prog 84 #[.string a, .string b] w fun e w' => e = .returned (.int .i64 (cmpS a b)) ∧ w = w' := by
 cases hl : Op.bytesLess a.toList b.toList
 ·cases he : (a.toList == b.toList)
  ·have HR := Lib.hid (show cmpS a b = 1 by unfold cmpS; rw [hl, he]; rfl)
   go_enter Tryz.func84, Tryz.ntmps84
   go_wp2_with (go_at_call 116; refine (nanS_any _ _).mono ?_; rintro e w' ⟨rfl, rfl⟩)
   go_ret
   exact ⟨by rw [HR.out]; try rfl, rfl⟩
  ·have HR := Lib.hid (show cmpS a b = 0 by unfold cmpS; rw [hl, he]; rfl)
   go_enter Tryz.func84, Tryz.ntmps84
   go_wp2_with (go_at_call 116; refine (nanS_any _ _).mono ?_; rintro e w' ⟨rfl, rfl⟩)
   go_ret
   exact ⟨by rw [HR.out]; try rfl, rfl⟩
 ·have HR := Lib.hid (show cmpS a b = -1 by unfold cmpS; rw [hl]; rfl)
  go_enter Tryz.func84, Tryz.ntmps84
  go_wp2_with (go_at_call 116; refine (nanS_any _ _).mono ?_; rintro e w' ⟨rfl, rfl⟩)
  go_ret
  exact ⟨by rw [HR.out]; try rfl, rfl⟩
set_option maxHeartbeats 4000000 in
theorem cmpI_any (a b : Int) (w : World) : Calls Tryz.prog 149 #[.int .i64 a, .int .i64 b] w fun e w' => e = .returned (.int .i64 (cmpI a b)) ∧ w = w' := by
 by_cases hl : a < b
 ·have HR := Lib.hid (show cmpI a b = -1 from if_pos hl)
  go_enter Tryz.func149, Tryz.ntmps149
  go_wp2_with (go_at_call 173; refine (nanI_any _ _).mono ?_; rintro e w' ⟨rfl, rfl⟩)
  go_ret
  exact ⟨by rw [HR.out]; try rfl, rfl⟩
 ·by_cases he : b < a
  ·have HR := Lib.hid (show cmpI a b = 1 by unfold cmpI; rw [if_neg hl, if_pos he])
   go_enter Tryz.func149, Tryz.ntmps149
   go_wp2_with (go_at_call 173; refine (nanI_any _ _).mono ?_; rintro e w' ⟨rfl, rfl⟩)
   go_ret
   exact ⟨by rw [HR.out]; try rfl, rfl⟩
  ·have HR := Lib.hid (show cmpI a b = 0 by unfold cmpI; rw [if_neg hl, if_neg he])
   go_enter Tryz.func149, Tryz.ntmps149
   go_wp2_with (go_at_call 173; refine (nanI_any _ _).mono ?_; rintro e w' ⟨rfl, rfl⟩)
   go_ret
   exact ⟨by rw [HR.out]; try rfl, rfl⟩
def orV (u v : Int) : Int := if u != 0 then u else v
def OrR (w : World) (u v : Int) (g : Nat) (s : Value) (W : World) : Prop := ∃ k : Nat, k + g = 2 ∧ s = .int .i64 k ∧ (0 < k → u = 0) ∧ (1 < k → v = 0) ∧ W = w
set_option maxHeartbeats 4000000 in
theorem or2_any (u v : Int) (g : Nat) (w : World) (hb : Bk.Blk w g #[.int .i64 u, .int .i64 v] 3) : Calls Tryz.prog 148 #[.slice (some ⟨g, 0, none⟩) 2 2] w fun e w' => e = .returned (.int .i64 (orV u v)) ∧ w = w' := by
 have l0 := hb.c0
 have l1 := hb.c1
 clear hb
 go_enter Tryz.func148, Tryz.ntmps148
 go_wp2_with fail
 go_loopg [8] 2 (OrR w u v)
 case atStart => exact ⟨0, by omega, rfl, fun h => absurd h (by omega), fun h => absurd h (by omega), rfl⟩
 case round =>
  obtain ⟨k, hk, rfl, h0, h1, rfl⟩ := hrel
  have H0 := Lib.hid h0
  have H1 := Lib.hid h1
  clear h0 h1
  have h3 : k = 0 ∨ k = 1 ∨ k = 2 := by omega
  rcases h3 with rfl | rfl | rfl
  ·cases hu : (u != 0)
   ·have HU := Lib.hid (show u = 0 by simpa using hu)
    go_wp2_with fail
    go_roundg (gk - 1)
    case measure => omega
    case rel => exact ⟨1, by omega, by go_num, fun _ => HU.out, fun h => absurd h (by omega), rfl⟩
   ·have HR := Lib.hid (show orV u v = u by unfold orV; rw [hu]; rfl)
    go_wp2_with fail
    go_ret
    exact ⟨by rw [HR.out]; try rfl, rfl⟩
  ·have HU := Lib.hid (H0.out (by omega))
   have HR := Lib.hid (show orV u v = v by unfold orV; rw [HU.out]; rfl)
   cases hv : (v != 0)
   ·have HV := Lib.hid (show v = 0 by simpa using hv)
    go_wp2_with fail
    go_roundg (gk - 1)
    case measure => omega
    case rel => exact ⟨2, by omega, by go_num, fun _ => HU.out, fun _ => HV.out, rfl⟩
   ·go_wp2_with fail
    go_ret
    exact ⟨by rw [HR.out]; try rfl, rfl⟩
  ·have HR := Lib.hid (show orV u v = 0 by unfold orV; rw [H0.out (by omega), H1.out (by omega)]; rfl)
   go_wp2_with fail
   go_ret
   exact ⟨by rw [HR.out]; try rfl, rfl⟩
def cmpL (x y : Lg) : Int := orV (cmpI x.ac y.ac) (cmpS x.cu y.cu)
set_option maxHeartbeats 8000000 in
theorem compare_any (x y : Lg) (w : World) : Calls Tryz.prog 121 #[(.agg #[.int .i64 (x).ac, .int .i64 (x).am, .string (x).cu]), (.agg #[.int .i64 (y).ac, .int .i64 (y).am, .string (y).cu])] w fun e w' => e = .returned (.int .i64 (cmpL x y)) ∧ Below w.heap.size w w' := by
 have cw : Below w.heap.size w ((w.alloc (.cells #[.int .i64 (x).ac, .int .i64 (x).am, .string (x).cu] 50)).alloc (.cells #[.int .i64 (y).ac, .int .i64 (y).am, .string (y).cu] 50)) := Bk.be
 have kx : Bk.Blk ((w.alloc (.cells #[.int .i64 (x).ac, .int .i64 (x).am, .string (x).cu] 50)).alloc (.cells #[.int .i64 (y).ac, .int .i64 (y).am, .string (y).cu] 50)) w.heap.size _ 50 := Bk.Blk.nw20
 have ky : Bk.Blk ((w.alloc (.cells #[.int .i64 (x).ac, .int .i64 (x).am, .string (x).cu] 50)).alloc (.cells #[.int .i64 (y).ac, .int .i64 (y).am, .string (y).cu] 50)) (w.heap.size + 1) _ 50 := Bk.Blk.nw21
 go_enter Tryz.func121, Tryz.ntmps121
 go_upto_region 1 with fail
 generalize ((w.alloc (.cells _ 50)).alloc (.cells _ 50)) = w1 at *
 (try simp only [Act.put])
 have hS0 : SB w1 w1.drew := (Below.refl _ _).drew
 refine wp_region_held_drew (S := SB w1) (by kernel_rfl) hS0 (fun hS => ?_)
 clear hS0
 refine tk 0 (by decide) ?_ hS (by kernel_rfl) (by kernel_rfl) (by kernel_rfl) (by rfl) (fun _ _ _ h => h) ?_ ?_
 rotate_left
 ·intro W hW
  have q := (kx.later hW).c0; have q2 := (kx.later hW).c2; have q3 := (ky.later hW).c0; have q4 := (ky.later hW).c2
  clear hW
  simp only [z0, z1]
  go_simp
  first | done | with_reducible rfl
 simp only [z0, z1, Act.put, z3, z4, z5]
 refine tk 1 (by decide) ?_ hS (by kernel_rfl) (by kernel_rfl) (by kernel_rfl) (by rfl) (fun _ _ _ h => h) ?_ ?_
 rotate_left
 ·intro W hW
  have q := (kx.later hW).c0; have q2 := (kx.later hW).c2; have q3 := (ky.later hW).c0; have q4 := (ky.later hW).c2
  clear hW
  simp only [z0, z1]
  go_simp
  first | done | with_reducible rfl
 simp only [z0, z1, Act.put, z3, z4, z5]
 refine tk 2 (by decide) ?_ hS (by kernel_rfl) (by kernel_rfl) (by kernel_rfl) (by rfl) (fun _ _ _ h => h) ?_ ?_
 rotate_left
 ·intro W hW
  have q := (kx.later hW).c0; have q2 := (kx.later hW).c2; have q3 := (ky.later hW).c0; have q4 := (ky.later hW).c2
  clear hW
  simp only [z0, z1]
  go_simp
  first | done | with_reducible rfl
 simp only [z0, z1, Act.put, z3, z4, z5]
 refine tk 3 (by decide) ?_ hS (by kernel_rfl) (by kernel_rfl) (by kernel_rfl) (by rfl) (fun _ _ _ h => h) ?_ ?_
 rotate_left
 ·intro W hW
  have q := (kx.later hW).c0; have q2 := (kx.later hW).c2; have q3 := (ky.later hW).c0; have q4 := (ky.later hW).c2
  clear hW
  simp only [z0, z1]
  go_simp
  first | done | with_reducible rfl
 simp only [z0, z1, Act.put, z3, z4, z5]
 refine tk 5 (by decide) ?_ hS (by kernel_rfl) (by kernel_rfl) (by kernel_rfl) (by rfl) (fun _ _ _ h => h) ?_ ?_
 rotate_left
 ·intro W hW
  have q := (kx.later hW).c0; have q2 := (kx.later hW).c2; have q3 := (ky.later hW).c0; have q4 := (ky.later hW).c2
  clear hW
  simp only [z0, z1]
  go_simp
  first | done | with_reducible rfl
 simp only [z0, z1, Act.put, z3, z4, z5]
 refine tk 6 (by decide) ?_ hS (by kernel_rfl) (by kernel_rfl) (by kernel_rfl) (by rfl) (fun _ _ _ h => h) ?_ ?_
 rotate_left
 ·intro W hW
  have q := (kx.later hW).c0; have q2 := (kx.later hW).c2; have q3 := (ky.later hW).c0; have q4 := (ky.later hW).c2
  clear hW
  simp only [z0, z1]
  go_simp
  first | done | with_reducible rfl
 simp only [z0, z1, Act.put, z3, z4, z5]
 refine tk 7 (by decide) ?_ hS (by kernel_rfl) (by kernel_rfl) (by kernel_rfl) (by rfl) (fun _ _ _ h => h) ?_ ?_
 rotate_left
 ·intro W hW
  have q := (kx.later hW).c0; have q2 := (kx.later hW).c2; have q3 := (ky.later hW).c0; have q4 := (ky.later hW).c2
  clear hW
  simp only [z0, z1]
  go_simp
  first | done | with_reducible rfl
 simp only [z0, z1, Act.put, z3, z4, z5]
 refine tk 8 (by decide) ?_ hS (by kernel_rfl) (by kernel_rfl) (by kernel_rfl) (by rfl) (fun _ _ _ h => h) ?_ ?_
 rotate_left
 ·intro W hW
  have q := (kx.later hW).c0; have q2 := (kx.later hW).c2; have q3 := (ky.later hW).c0; have q4 := (ky.later hW).c2
  clear hW
  simp only [z0, z1]
  go_simp
  first | done | with_reducible rfl
 simp only [z0, z1, Act.put, z3, z4, z5]
 refine one_at 4 (by decide) (by kernel_rfl) (by rfl) (fun K hK => ?_)
 refine call_wp (by simp only [z0, z1]; go_simp; first | done | rfl | exact ⟨rfl, rfl⟩) ((cmpI_any x.ac y.ac _).mono ?_)
 rintro e wq ⟨rfl, rfl⟩
 refine ⟨_, rfl, hK.out _ _ hS (fun hT' => ?_)⟩
 clear hT' hK
 simp only [z0, z1, Act.put, z3, z4, z5]
 refine one_at 9 (by decide) (by kernel_rfl) (by rfl) (fun K hK => ?_)
 refine call_wp (by simp only [z0, z1]; go_simp; first | done | rfl | exact ⟨rfl, rfl⟩) ((cmpS_any x.cu y.cu _).mono ?_)
 rintro e wq ⟨rfl, rfl⟩
 refine ⟨_, rfl, hK.out _ _ hS (fun hT' => ?_)⟩
 clear hT' hK
 simp only [z0, z1, Act.put, z3, z4, z5]
 refine one_at 10 (by decide) (by kernel_rfl) (by rfl) (fun K hK => ?_)
 refine value_wp (by simp only [z0, z1]; go_simp; first | done | rfl | exact ⟨rfl, rfl⟩) ?_
 have hT : SB w1 ((w1.alloc (.cells #[.int .i64 (cmpI x.ac y.ac), .int .i64 (cmpS x.cu y.cu)] 3)).drew) := ((Below.refl _ _).alloc (Nat.le_refl _) _).drew
 have hN : Bk.Blk ((w1.alloc (.cells #[.int .i64 (cmpI x.ac y.ac), .int .i64 (cmpS x.cu y.cu)] 3)).drew) w1.heap.size _ 3 := Bk.Blk.drew Bk.Blk.nw10
 refine hK.out _ _ hT (fun hT' => ?_)
 clear hT' hK hS
 have hS := hT
 clear hT
 simp only [z0, z1, Act.put, z3, z4, z5]
 generalize ((w1.alloc (.cells _ 3)).drew) = w2 at *
 refine one_at 11 (by decide) (by kernel_rfl) (by rfl) (fun K hK => ?_)
 refine call_wp (by simp only [z0, z1]; go_simp; first | done | rfl | exact ⟨rfl, rfl⟩) ((or2_any _ _ _ _ hN).mono ?_)
 rintro e wq ⟨rfl, rfl⟩
 refine ⟨_, rfl, hK.out _ _ hS (fun hT' => ?_)⟩
 clear hT' hK
 simp only [z0, z1, Act.put, z3, z4, z5]
 refine tk 12 (by decide) ?_ hS (by kernel_rfl) (by kernel_rfl) (by kernel_rfl) (by rfl) (fun _ _ _ h => h) ?_ ?_
 rotate_left
 ·intro W hW
  clear hW
  simp only [z0, z1]
  go_simp
  first | done | with_reducible rfl
 simp only [z0, z1, Act.put, z3, z4, z5]
 refine wpAnyH_done (by kernel_rfl) ?_ _
 have c3 := bl2 hS cw
 clear hS
 go_wp2_with fail
 go_ret
 exact ⟨rfl, c3⟩

structure Mn where
 (cu : ByteArray) (am : Int)
instance : Inhabited Mn := ⟨⟨.empty, 0⟩⟩
def mnenc (m : Mn) : List Value := [.string m.cu, .int .i64 m.am]
theorem mnenc_len (m : Mn) : (mnenc m).length = 2 := rfl
theorem mnenc_one (x : Mn) : ∀ u ∈ mnenc x, u.oneCell' = true := by
 intro u hu
 simp only [mnenc, List.mem_cons, List.not_mem_nil, or_false] at hu
 rcases hu with rfl | rfl <;> rfl
def Bs {α : Type} [Inhabited α] (cf : α → Int) (l : List α) (i : Nat) : Prop := i ≤ l.length ∧ (∀ t, t < i → cf l[t]! < 0) ∧ ∀ t, i ≤ t → t < l.length → 0 ≤ cf l[t]!
def BsF {α : Type} [Inhabited α] (cf : α → Int) (l : List α) (i : Nat) : Bool := decide (i < l.length) && (cf l[i]! == 0)
def BsR {α : Type} [Inhabited α] (w : World) (cf : α → Int) (l : List α) (g : Nat) (s9 s10 : Value) (W : World) : Prop := ∃ i j : Nat, j = i + g ∧ j ≤ l.length ∧ s9 = .int .i64 i ∧ s10 = .int .i64 j ∧ (∀ t, t < i → cf l[t]! < 0) ∧ (∀ t, j ≤ t → t < l.length → 0 ≤ cf l[t]!) ∧ Below w.heap.size w W
def CmpM (g : Nat) (lb : Array Value) (s : ByteArray) (cf : Mn → Int) (B : Nat) (w : World) : Prop := ∀ (d : Mn) (W : World), Below B w W → Calls Tryz.prog g (#[.agg #[.string d.cu, .int .i64 d.am], .string s] ++ lb) W fun e w' => e = .returned (.int .i64 (cf d)) ∧ Below W.heap.size W w'
set_option maxHeartbeats 8000000 in
theorem bsM_any (g : Nat) (lb : Array Value) (s : ByteArray) (cf : Mn → Int) (a : Option Addr) (cap : Nat) (l : List Mn) (w : World) (hn : l.length ≤ 100000) (h : RowIn mnenc w a l) (eg : ∀ args w, (callFunc g args).run Tryz.prog w = .ok (.enter g args) w) (hp : CmpM g lb s cf w.heap.size w)
  (hmono : ∀ a b, a ≤ b → b < l.length → cf l[b]! < 0 → cf l[a]! < 0) :
  Calls Tryz.prog 82 #[.slice a l.length cap, .string s, .func (.func g) #[] lb] w fun e w' => ∃ i, e = .returned (.tuple #[.int .i64 (i : Nat), .bool (BsF cf l i)]) ∧ Bs cf l i ∧ Below w.heap.size w w' := by
 have H := Lib.hid h
 have HP := Lib.hid hp
 have HM := Lib.hid hmono
 clear h hp hmono
 go_enter Tryz.func82, Tryz.ntmps82
 go_wp2_with fail
 go_loopg [9, 10] l.length (BsR w cf l)
 case atStart => exact ⟨0, l.length, by omega, Nat.le_refl _, rfl, rfl, fun t ht => absurd ht (by omega), fun t h1 h2 => absurd h1 (by omega), Below.refl _ _⟩
 case round =>
  obtain ⟨i, j, hj, hjl, rfl, rfl, hlo, hhi, hbr⟩ := hrel
  have HLO := Lib.hid hlo
  have HHI := Lib.hid hhi
  have HJ := Lib.hid hj
  clear hlo hhi
  by_cases hlt : i < j
  ·have dlt : decide ((i : Int) < (j : Int)) = true := decide_eq_true (by omega)
   obtain ⟨m, hm⟩ : ∃ m : Nat, m = (i + j) / 2 := ⟨_, rfl⟩
   have hmi : i ≤ m := by omega
   have hmj : m < j := by omega
   have he : ((i : Int) + (j : Int)) / 2 = (m : Int) := by omega
   have HE := Lib.hid he
   clear hj hm he
   go_upto_region 5 with fail
   rw [HE.out]
   obtain ⟨b, off, ha, hc⟩ := rowat mnenc_len H.out (by omega)
   have hmm := range_later hbr (hc m (by omega))
   have hcall := HP.out l[m]! wr hbr
   obtain ⟨d, hd⟩ : ∃ d, d = l[m]! := ⟨_, rfl⟩
   rw [← hd] at hmm hcall
   have HD := Lib.hid hd
   clear hc hd
   obtain ⟨r, hr⟩ : ∃ r, r = cf d := ⟨_, rfl⟩
   rw [← hr] at hcall
   have HR := Lib.hid hr
   clear hr
   rw [ha]
   have HA := Lib.hid ha
   clear ha
   go_wp2_with ((refine wpList_load_mid rfl 112 _ rfl _ (off + m * 2) (by first | rfl | simp) ([.string d.cu, .int .i64 d.am]) _ (hmm) Tryz.underlying112 rfl (by kernel_rfl) ?_))
   refine hcall.mono ?_
   rintro e w1 ⟨rfl, hb⟩
   clear hcall hmm
   rw [← HA.out]
   by_cases hneg : r < 0
   ·have dn : decide (r < 0) = true := decide_eq_true hneg
    go_wp2_with fail
    go_roundg (j - (m + 1))
    case measure => have := HJ.out; omega
    case rel => exact ⟨m + 1, j, by omega, hjl, by go_num, rfl, fun t ht => by
     by_cases e : t = m
     ·subst e; rw [← HD.out, ← HR.out]; exact hneg
     ·exact HM.out t m (by omega) (by omega) (by rw [← HD.out, ← HR.out]; exact hneg), HHI.out, bl2 hb hbr⟩
   ·have dn : decide (r < 0) = false := decide_eq_false hneg
    go_wp2_with fail
    go_roundg (m - i)
    case measure => have := HJ.out; omega
    case rel => exact ⟨i, m, by omega, by omega, rfl, rfl, HLO.out, fun t h1 h2 => by
     apply Classical.byContradiction
     intro h3
     have := HM.out m t h1 h2 (by omega)
     rw [← HD.out, ← HR.out] at this
     omega, bl2 hb hbr⟩
  ·have dlt : decide ((i : Int) < (j : Int)) = false := decide_eq_false (by omega)
   have hij : j = i := by omega
   have HIJ := Lib.hid hij
   have HB := Lib.hid (show Bs cf l i from ⟨by omega, HLO.out, by have := HHI.out; rw [hij] at this; exact this⟩)
   clear hij hj
   by_cases hil : i < l.length
   ·have dl : decide ((i : Int) < (l.length : Int)) = true := decide_eq_true (by omega)
    obtain ⟨b, off, ha, hc⟩ := rowat mnenc_len H.out (by omega)
    have hmm := range_later hbr (hc i (by omega))
    have hcall := HP.out l[i]! wr hbr
    obtain ⟨d, hd⟩ : ∃ d, d = l[i]! := ⟨_, rfl⟩
    rw [← hd] at hmm hcall
    have HD := Lib.hid hd
    clear hc hd
    obtain ⟨r, hr⟩ : ∃ r, r = cf d := ⟨_, rfl⟩
    rw [← hr] at hcall
    have HF := Lib.hid (show BsF cf l i = (r == 0) by unfold BsF; rw [decide_eq_true hil, ← HD.out, ← hr]; rfl)
    clear hr
    rw [ha]
    have m0 : wr.cell? ⟨b, off + i * 2, none⟩ = some (.string d.cu) := hmm 0 _ rfl
    have m1 : wr.cell? ⟨b, off + i * 2 + 1, none⟩ = some (.int .i64 d.am) := hmm 1 _ rfl
    clear hmm
    go_wp2_with fail
    refine hcall.mono ?_
    rintro e w1 ⟨rfl, hb⟩
    clear hcall
    go_wp2_with fail
    go_ret2
    exact ⟨i, by rw [HF.out]; rfl, HB.out, bl2 hb hbr⟩
   ·have dl : decide ((i : Int) < (l.length : Int)) = false := decide_eq_false (by omega)
    have HF := Lib.hid (show BsF cf l i = false by unfold BsF; rw [decide_eq_false hil]; rfl)
    go_wp2_with fail
    go_ret2
    exact ⟨i, by rw [HF.out]; rfl, HB.out, hbr⟩
def CmpL (g : Nat) (lb : Array Value) (y : Lg) (cf : Lg → Int) (B : Nat) (w : World) : Prop := ∀ (d : Lg) (W : World), Below B w W → Calls Tryz.prog g (#[(.agg #[.int .i64 (d).ac, .int .i64 (d).am, .string (d).cu]), (.agg #[.int .i64 (y).ac, .int .i64 (y).am, .string (y).cu])] ++ lb) W fun e w' => e = .returned (.int .i64 (cf d)) ∧ Below W.heap.size W w'
def BsR2 {α : Type} [Inhabited α] (w : World) (cf : α → Int) (l : List α) (cs : Array Value) (t : TypeId) (g : Nat) (s9 s10 : Value) (W : World) : Prop := ∃ i j : Nat, j = i + g ∧ j ≤ l.length ∧ s9 = .int .i64 i ∧ s10 = .int .i64 j ∧ (∀ t, t < i → cf l[t]! < 0) ∧ (∀ t, j ≤ t → t < l.length → 0 ≤ cf l[t]!) ∧ Bk.Blk W w.heap.size cs t ∧ Below w.heap.size w W
set_option maxHeartbeats 8000000 in
theorem bsL_any (g : Nat) (lb : Array Value) (y : Lg) (cf : Lg → Int) (a : Option Addr) (cap : Nat) (l : List Lg) (w : World) (hn : l.length ≤ 100000) (h : RowIn lgenc w a l) (eg : ∀ args w, (callFunc g args).run Tryz.prog w = .ok (.enter g args) w) (hp : CmpL g lb y cf w.heap.size w)
  (hmono : ∀ a b, a ≤ b → b < l.length → cf l[b]! < 0 → cf l[a]! < 0) :
  Calls Tryz.prog 120 #[.slice a l.length cap, (.agg #[.int .i64 (y).ac, .int .i64 (y).am, .string (y).cu]), .func (.func g) #[] lb] w fun e w' => ∃ i, e = .returned (.tuple #[.int .i64 (i : Nat), .bool (BsF cf l i)]) ∧ Bs cf l i ∧ Below w.heap.size w w' := by
 have H := Lib.hid h
 have HP := Lib.hid hp
 have HM := Lib.hid hmono
 clear h hp hmono
 have cw : Below w.heap.size w (w.alloc (.cells #[.int .i64 (y).ac, .int .i64 (y).am, .string (y).cu] 50)) := Bk.be
 have ky : Bk.Blk (w.alloc (.cells #[.int .i64 (y).ac, .int .i64 (y).am, .string (y).cu] 50)) w.heap.size _ 50 := Bk.Blk.nw10
 go_enter Tryz.func120, Tryz.ntmps120
 go_upto_region 1 with fail
 generalize (w.alloc (.cells _ 50)) = w1 at *
 go_wp2_with fail
 go_loopg [9, 10] l.length (BsR2 w cf l #[.int .i64 (y).ac, .int .i64 (y).am, .string (y).cu] 50)
 case atStart => exact ⟨0, l.length, by omega, Nat.le_refl _, rfl, rfl, fun t ht => absurd ht (by omega), fun t h1 h2 => absurd h1 (by omega), ky, cw⟩
 case round =>
  clear ky cw
  obtain ⟨i, j, hj, hjl, rfl, rfl, hlo, hhi, ky, hbr⟩ := hrel
  have HLO := Lib.hid hlo
  have HHI := Lib.hid hhi
  have HJ := Lib.hid hj
  clear hlo hhi
  by_cases hlt : i < j
  ·have dlt : decide ((i : Int) < (j : Int)) = true := decide_eq_true (by omega)
   obtain ⟨m, hm⟩ : ∃ m : Nat, m = (i + j) / 2 := ⟨_, rfl⟩
   have hmi : i ≤ m := by omega
   have hmj : m < j := by omega
   have he : ((i : Int) + (j : Int)) / 2 = (m : Int) := by omega
   have HE := Lib.hid he
   clear hj hm he
   go_upto_region 5 with fail
   rw [HE.out]
   obtain ⟨b, off, ha, hc⟩ := rowat lgenc_len H.out (by omega)
   have hmm := range_later hbr (hc m (by omega))
   obtain ⟨d, hd⟩ : ∃ d, d = l[m]! := ⟨_, rfl⟩
   rw [← hd] at hmm
   have HD := Lib.hid hd
   clear hc hd
   obtain ⟨r, hr⟩ : ∃ r, r = cf d := ⟨_, rfl⟩
   have HPD := Lib.hid (fun (W : World) (hW : Below w.heap.size w W) => by have h := HP.out d W hW; rw [← hr] at h; exact h)
   have HR := Lib.hid hr
   clear hr
   rw [ha]
   have HA := Lib.hid ha
   clear ha
   have m0 : wr.cell? ⟨b, off + m * 3, none⟩ = some (.int .i64 d.ac) := hmm 0 _ rfl
   have m1 : wr.cell? ⟨b, off + m * 3 + 1, none⟩ = some (.int .i64 d.am) := hmm 1 _ rfl
   have m2 : wr.cell? ⟨b, off + m * 3 + 2, none⟩ = some (.string d.cu) := hmm 2 _ rfl
   clear hmm
   have hml : m < l.length := by omega
   (try simp only [Act.put])
   have hS0 : SB wr wr.drew := (Below.refl _ _).drew
   refine wp_region_held_drew (S := SB wr) (by kernel_rfl) hS0 (fun hS => ?_)
   clear hS0
   refine tk 0 (by decide) ?_ hS (by kernel_rfl) (by kernel_rfl) (by kernel_rfl) (by rfl) (fun _ _ _ h => h) ?_ ?_
   rotate_left
   ·intro W hW
    clear hW
    simp only [z0, z1]
    go_simp
    first | done | with_reducible rfl
   simp only [z0, z1, Act.put, z3, z4, z5]
   refine tk 1 (by decide) ?_ hS (by kernel_rfl) (by kernel_rfl) (by kernel_rfl) (by rfl) (fun _ _ _ h => h) ?_ ?_
   rotate_left
   ·intro W hW
    clear hW
    simp only [z0, z1]
    go_simp
    first | done | with_reducible rfl
   simp only [z0, z1, Act.put, z3, z4, z5]
   refine tk 2 (by decide) ?_ hS (by kernel_rfl) (by kernel_rfl) (by kernel_rfl) (by rfl) (fun _ _ _ h => h) ?_ ?_
   rotate_left
   ·intro W hW
    clear hW
    simp only [z0, z1]
    go_simp
    first | done | with_reducible rfl
   simp only [z0, z1, Act.put, z3, z4, z5]
   refine tk 3 (by decide) ?_ hS (by kernel_rfl) (by kernel_rfl) (by kernel_rfl) (by rfl) (fun _ _ _ h => h) ?_ ?_
   rotate_left
   ·intro W hW
    clear hW
    simp only [z0, z1]
    go_simp
    first | done | with_reducible rfl
   simp only [z0, z1, Act.put, z3, z4, z5]
   refine tk 4 (by decide) ?_ hS (by kernel_rfl) (by kernel_rfl) (by kernel_rfl) (by rfl) (fun _ _ _ h => h) ?_ ?_
   rotate_left
   ·intro W hW
    have q0 := cell_later hW m0; have q1 := cell_later hW m1; have q2 := cell_later hW m2
    clear hW
    simp only [z0, z1]
    go_simp
    first | done | with_reducible rfl
   simp only [z0, z1, Act.put, z3, z4, z5]
   refine tk 5 (by decide) ?_ hS (by kernel_rfl) (by kernel_rfl) (by kernel_rfl) (by rfl) (fun _ _ _ h => h) ?_ ?_
   rotate_left
   ·intro W hW
    have q0 := (ky.later hW).c0; have q1 := (ky.later hW).c1; have q2 := (ky.later hW).c2
    clear hW
    simp only [z0, z1]
    go_simp
    first | done | with_reducible rfl
   simp only [z0, z1, Act.put, z3, z4, z5]
   refine one_at 6 (by decide) (by kernel_rfl) (by rfl) (fun K hK => ?_)
   refine call_wp (by simp only [z0, z1]; go_simp; first | done | rfl | exact ⟨rfl, rfl⟩) ((HPD.out _ (bl2 hS hbr)).mono ?_)
   rintro e w3 ⟨rfl, hb⟩
   have hT := SB.mono _ _ hS hb
   refine ⟨_, rfl, hK.out _ _ hT (fun hT' => ?_)⟩
   clear hT' hS hK hb
   have hS := hT
   clear hT
   simp only [z0, z1, Act.put, z3, z4, z5]
   refine tk 7 (by decide) ?_ hS (by kernel_rfl) (by kernel_rfl) (by kernel_rfl) (by rfl) (fun _ _ _ h => h) ?_ ?_
   rotate_left
   ·intro W hW
    clear hW
    simp only [z0, z1]
    go_simp
    first | done | with_reducible rfl
   simp only [z0, z1, Act.put, z3, z4, z5]
   refine wpAnyH_done (by kernel_rfl) ?_ _
   have hb := hS
   replace ky := ky.later hb
   rw [← HA.out]
   by_cases hneg : r < 0
   ·have dn : decide (r < 0) = true := decide_eq_true hneg
    go_wp2_with fail
    go_roundg (j - (m + 1))
    case measure => have := HJ.out; omega
    case rel => exact ⟨m + 1, j, by omega, hjl, by go_num, rfl, fun t ht => by
     by_cases e : t = m
     ·subst e; rw [← HD.out, ← HR.out]; exact hneg
     ·exact HM.out t m (by omega) (by omega) (by rw [← HD.out, ← HR.out]; exact hneg), HHI.out, ky, bl2 hb hbr⟩
   ·have dn : decide (r < 0) = false := decide_eq_false hneg
    go_wp2_with fail
    go_roundg (m - i)
    case measure => have := HJ.out; omega
    case rel => exact ⟨i, m, by omega, by omega, rfl, rfl, HLO.out, fun t h1 h2 => by
     apply Classical.byContradiction
     intro h3
     have := HM.out m t h1 h2 (by omega)
     rw [← HD.out, ← HR.out] at this
     omega, ky, bl2 hb hbr⟩
  ·have dlt : decide ((i : Int) < (j : Int)) = false := decide_eq_false (by omega)
   have hij : j = i := by omega
   have HIJ := Lib.hid hij
   have HB := Lib.hid (show Bs cf l i from ⟨by omega, HLO.out, by have := HHI.out; rw [hij] at this; exact this⟩)
   clear hij hj
   by_cases hil : i < l.length
   ·have dl : decide ((i : Int) < (l.length : Int)) = true := decide_eq_true (by omega)
    obtain ⟨b, off, ha, hc⟩ := rowat lgenc_len H.out (by omega)
    have hmm := range_later hbr (hc i (by omega))
    obtain ⟨d, hd⟩ : ∃ d, d = l[i]! := ⟨_, rfl⟩
    rw [← hd] at hmm
    have HD := Lib.hid hd
    clear hc hd
    obtain ⟨r, hr⟩ : ∃ r, r = cf d := ⟨_, rfl⟩
    have HPD := Lib.hid (fun (W : World) (hW : Below w.heap.size w W) => by have h := HP.out d W hW; rw [← hr] at h; exact h)
    have HF := Lib.hid (show BsF cf l i = (r == 0) by unfold BsF; rw [decide_eq_true hil, ← HD.out, ← hr]; rfl)
    clear hr
    rw [ha]
    have m0 : wr.cell? ⟨b, off + i * 3, none⟩ = some (.int .i64 d.ac) := hmm 0 _ rfl
    have m1 : wr.cell? ⟨b, off + i * 3 + 1, none⟩ = some (.int .i64 d.am) := hmm 1 _ rfl
    have m2 : wr.cell? ⟨b, off + i * 3 + 2, none⟩ = some (.string d.cu) := hmm 2 _ rfl
    clear hmm
    go_upto_region 8 with fail
    (try simp only [Act.put])
    have hS0 : SB wr wr.drew := (Below.refl _ _).drew
    refine wp_region_held_drew (S := SB wr) (by kernel_rfl) hS0 (fun hS => ?_)
    clear hS0
    refine tk 0 (by decide) ?_ hS (by kernel_rfl) (by kernel_rfl) (by kernel_rfl) (by rfl) (fun _ _ _ h => h) ?_ ?_
    rotate_left
    ·intro W hW
     clear hW
     simp only [z0, z1]
     go_simp
     first | done | with_reducible rfl
    simp only [z0, z1, Act.put, z3, z4, z5]
    refine tk 1 (by decide) ?_ hS (by kernel_rfl) (by kernel_rfl) (by kernel_rfl) (by rfl) (fun _ _ _ h => h) ?_ ?_
    rotate_left
    ·intro W hW
     clear hW
     simp only [z0, z1]
     go_simp
     first | done | with_reducible rfl
    simp only [z0, z1, Act.put, z3, z4, z5]
    refine tk 2 (by decide) ?_ hS (by kernel_rfl) (by kernel_rfl) (by kernel_rfl) (by rfl) (fun _ _ _ h => h) ?_ ?_
    rotate_left
    ·intro W hW
     clear hW
     simp only [z0, z1]
     go_simp
     first | done | with_reducible rfl
    simp only [z0, z1, Act.put, z3, z4, z5]
    refine tk 3 (by decide) ?_ hS (by kernel_rfl) (by kernel_rfl) (by kernel_rfl) (by rfl) (fun _ _ _ h => h) ?_ ?_
    rotate_left
    ·intro W hW
     clear hW
     simp only [z0, z1]
     go_simp
     first | done | with_reducible rfl
    simp only [z0, z1, Act.put, z3, z4, z5]
    refine tk 4 (by decide) ?_ hS (by kernel_rfl) (by kernel_rfl) (by kernel_rfl) (by rfl) (fun _ _ _ h => h) ?_ ?_
    rotate_left
    ·intro W hW
     clear hW
     simp only [z0, z1]
     go_simp
     first | done | with_reducible rfl
    simp only [z0, z1, Act.put, z3, z4, z5]
    refine tk 5 (by decide) ?_ hS (by kernel_rfl) (by kernel_rfl) (by kernel_rfl) (by rfl) (fun _ _ _ h => h) ?_ ?_
    rotate_left
    ·intro W hW
     clear hW
     simp only [z0, z1]
     go_simp
     first | done | with_reducible rfl
    simp only [z0, z1, Act.put, z3, z4, z5]
    refine tk 6 (by decide) ?_ hS (by kernel_rfl) (by kernel_rfl) (by kernel_rfl) (by rfl) (fun _ _ _ h => h) ?_ ?_
    rotate_left
    ·intro W hW
     clear hW
     simp only [z0, z1]
     go_simp
     first | done | with_reducible rfl
    simp only [z0, z1, Act.put, z3, z4, z5]
    refine tk 7 (by decide) ?_ hS (by kernel_rfl) (by kernel_rfl) (by kernel_rfl) (by rfl) (fun _ _ _ h => h) ?_ ?_
    rotate_left
    ·intro W hW
     clear hW
     simp only [z0, z1]
     go_simp
     first | done | with_reducible rfl
    simp only [z0, z1, Act.put, z3, z4, z5]
    refine tk 8 (by decide) ?_ hS (by kernel_rfl) (by kernel_rfl) (by kernel_rfl) (by rfl) (fun _ _ _ h => h) ?_ ?_
    rotate_left
    ·intro W hW
     clear hW
     simp only [z0, z1]
     go_simp
     first | done | with_reducible rfl
    simp only [z0, z1, Act.put, z3, z4, z5]
    refine tk 9 (by decide) ?_ hS (by kernel_rfl) (by kernel_rfl) (by kernel_rfl) (by rfl) (fun _ _ _ h => h) ?_ ?_
    rotate_left
    ·intro W hW
     have q0 := cell_later hW m0; have q1 := cell_later hW m1; have q2 := cell_later hW m2
     clear hW
     simp only [z0, z1]
     go_simp
     first | done | with_reducible rfl
    simp only [z0, z1, Act.put, z3, z4, z5]
    refine tk 10 (by decide) ?_ hS (by kernel_rfl) (by kernel_rfl) (by kernel_rfl) (by rfl) (fun _ _ _ h => h) ?_ ?_
    rotate_left
    ·intro W hW
     have q0 := (ky.later hW).c0; have q1 := (ky.later hW).c1; have q2 := (ky.later hW).c2
     clear hW
     simp only [z0, z1]
     go_simp
     first | done | with_reducible rfl
    simp only [z0, z1, Act.put, z3, z4, z5]
    refine one_at 11 (by decide) (by kernel_rfl) (by rfl) (fun K hK => ?_)
    refine call_wp (by simp only [z0, z1]; go_simp; first | done | rfl | exact ⟨rfl, rfl⟩) ((HPD.out _ (bl2 hS hbr)).mono ?_)
    rintro e w3 ⟨rfl, hb⟩
    have hT := SB.mono _ _ hS hb
    refine ⟨_, rfl, hK.out _ _ hT (fun hT' => ?_)⟩
    clear hT' hS hK hb
    have hS := hT
    clear hT
    simp only [z0, z1, Act.put, z3, z4, z5]
    refine tk 12 (by decide) ?_ hS (by kernel_rfl) (by kernel_rfl) (by kernel_rfl) (by rfl) (fun _ _ _ h => h) ?_ ?_
    rotate_left
    ·intro W hW
     clear hW
     simp only [z0, z1]
     go_simp
     first | done | with_reducible rfl
    simp only [z0, z1, Act.put, z3, z4, z5]
    refine tk 13 (by decide) ?_ hS (by kernel_rfl) (by kernel_rfl) (by kernel_rfl) (by rfl) (fun _ _ _ h => h) ?_ ?_
    rotate_left
    ·intro W hW
     clear hW
     simp only [z0, z1]
     go_simp
     first | done | with_reducible rfl
    simp only [z0, z1, Act.put, z3, z4, z5]
    refine tk 14 (by decide) ?_ hS (by kernel_rfl) (by kernel_rfl) (by kernel_rfl) (by rfl) (fun _ _ _ h => h) ?_ ?_
    rotate_left
    ·intro W hW
     clear hW
     simp only [z0, z1]
     go_simp
     first | done | with_reducible rfl
    simp only [z0, z1, Act.put, z3, z4, z5]
    refine tk 15 (by decide) ?_ hS (by kernel_rfl) (by kernel_rfl) (by kernel_rfl) (by rfl) (fun _ _ _ h => h) ?_ ?_
    rotate_left
    ·intro W hW
     clear hW
     simp only [z0, z1]
     go_simp
     first | done | with_reducible rfl
    simp only [z0, z1, Act.put, z3, z4, z5]
    refine wpAnyH_done (by kernel_rfl) ?_ _
    have hb := hS
    go_wp2_with fail
    go_ret2
    exact ⟨i, by rw [HF.out]; rfl, HB.out, bl2 hb hbr⟩
   ·have dl : decide ((i : Int) < (l.length : Int)) = false := decide_eq_false (by omega)
    have HF := Lib.hid (show BsF cf l i = false by unfold BsF; rw [decide_eq_false hil]; rfl)
    go_upto_region 8 with fail
    (try simp only [Act.put])
    have hS0 : SB wr wr.drew := (Below.refl _ _).drew
    refine wp_region_held_drew (S := SB wr) (by kernel_rfl) hS0 (fun hS => ?_)
    clear hS0
    refine tk 0 (by decide) ?_ hS (by kernel_rfl) (by kernel_rfl) (by kernel_rfl) (by rfl) (fun _ _ _ h => h) ?_ ?_
    rotate_left
    ·intro W hW
     clear hW
     simp only [z0, z1]
     go_simp
     first | done | with_reducible rfl
    simp only [z0, z1, Act.put, z3, z4, z5]
    refine tk 1 (by decide) ?_ hS (by kernel_rfl) (by kernel_rfl) (by kernel_rfl) (by rfl) (fun _ _ _ h => h) ?_ ?_
    rotate_left
    ·intro W hW
     clear hW
     simp only [z0, z1]
     go_simp
     first | done | with_reducible rfl
    simp only [z0, z1, Act.put, z3, z4, z5]
    refine tk 2 (by decide) ?_ hS (by kernel_rfl) (by kernel_rfl) (by kernel_rfl) (by rfl) (fun _ _ _ h => h) ?_ ?_
    rotate_left
    ·intro W hW
     clear hW
     simp only [z0, z1]
     go_simp
     first | done | with_reducible rfl
    simp only [z0, z1, Act.put, z3, z4, z5]
    refine tk 3 (by decide) ?_ hS (by kernel_rfl) (by kernel_rfl) (by kernel_rfl) (by rfl) (fun _ _ _ h => h) ?_ ?_
    rotate_left
    ·intro W hW
     clear hW
     simp only [z0, z1]
     go_simp
     first | done | with_reducible rfl
    simp only [z0, z1, Act.put, z3, z4, z5]
    refine tk 4 (by decide) ?_ hS (by kernel_rfl) (by kernel_rfl) (by kernel_rfl) (by rfl) (fun _ _ _ h => h) ?_ ?_
    rotate_left
    ·intro W hW
     clear hW
     simp only [z0, z1]
     go_simp
     first | done | with_reducible rfl
    simp only [z0, z1, Act.put, z3, z4, z5]
    refine ts 5 (by decide) hS (by kernel_rfl) (by kernel_rfl) (by kernel_rfl) (by rfl) (fun _ _ _ h => h) ?_
    simp only [z0, z1, Act.put, z3, z4, z5]
    refine ts 6 (by decide) hS (by kernel_rfl) (by kernel_rfl) (by kernel_rfl) (by rfl) (fun _ _ _ h => h) ?_
    simp only [z0, z1, Act.put, z3, z4, z5]
    refine ts 7 (by decide) hS (by kernel_rfl) (by kernel_rfl) (by kernel_rfl) (by rfl) (fun _ _ _ h => h) ?_
    simp only [z0, z1, Act.put, z3, z4, z5]
    refine ts 8 (by decide) hS (by kernel_rfl) (by kernel_rfl) (by kernel_rfl) (by rfl) (fun _ _ _ h => h) ?_
    simp only [z0, z1, Act.put, z3, z4, z5]
    refine ts 9 (by decide) hS (by kernel_rfl) (by kernel_rfl) (by kernel_rfl) (by rfl) (fun _ _ _ h => h) ?_
    simp only [z0, z1, Act.put, z3, z4, z5]
    refine ts 10 (by decide) hS (by kernel_rfl) (by kernel_rfl) (by kernel_rfl) (by rfl) (fun _ _ _ h => h) ?_
    simp only [z0, z1, Act.put, z3, z4, z5]
    refine ts 11 (by decide) hS (by kernel_rfl) (by kernel_rfl) (by kernel_rfl) (by rfl) (fun _ _ _ h => h) ?_
    simp only [z0, z1, Act.put, z3, z4, z5]
    refine ts 12 (by decide) hS (by kernel_rfl) (by kernel_rfl) (by kernel_rfl) (by rfl) (fun _ _ _ h => h) ?_
    simp only [z0, z1, Act.put, z3, z4, z5]
    refine tk 13 (by decide) ?_ hS (by kernel_rfl) (by kernel_rfl) (by kernel_rfl) (by rfl) (fun _ _ _ h => h) ?_ ?_
    rotate_left
    ·intro W hW
     clear hW
     simp only [z0, z1]
     go_simp
     first | done | with_reducible rfl
    simp only [z0, z1, Act.put, z3, z4, z5]
    refine tk 14 (by decide) ?_ hS (by kernel_rfl) (by kernel_rfl) (by kernel_rfl) (by rfl) (fun _ _ _ h => h) ?_ ?_
    rotate_left
    ·intro W hW
     clear hW
     simp only [z0, z1]
     go_simp
     first | done | with_reducible rfl
    simp only [z0, z1, Act.put, z3, z4, z5]
    refine tk 15 (by decide) ?_ hS (by kernel_rfl) (by kernel_rfl) (by kernel_rfl) (by rfl) (fun _ _ _ h => h) ?_ ?_
    rotate_left
    ·intro W hW
     clear hW
     simp only [z0, z1]
     go_simp
     first | done | with_reducible rfl
    simp only [z0, z1, Act.put, z3, z4, z5]
    refine wpAnyH_done (by kernel_rfl) ?_ _
    have hb := hS
    go_wp2_with fail
    go_ret2
    exact ⟨i, by rw [HF.out]; rfl, HB.out, bl2 hb hbr⟩
end Go.Proofs.YtjhpiclnpmdjnaaGreatDoor.Bm
