/-
  The contracts of Text, of package wide and of the reference.
-/
import Derived.Test.YtmdomlfkehhleaaR11
import Derived.Test.YtmdomlfkehhleaaTx
namespace Go.Proofs.Ytmdomlfkehhleaa.Wt
open Go.RowKit
open Go.Proofs.Ytmdomlfkehhleaa
open Go.Proofs.Ytmdomlfkehhleaa.Wm
open Go.Proofs.Ytmdomlfkehhleaa.Tx

/-- How long a text is. -/
def strLen : Value → Nat
  | .string b => b.size
  | _ => 0
/-- The loop's own relation: the size lies in block g. -/
def TextLoop (w : World) (g : Nat) (x m : Int) (vr vt : Value) (wr : World) : Prop := ∃ (s r : Int) (l : List UInt8), TRel m s l ∧ vr = .int .u64 r ∧ vt = .string (bs l) ∧
  Two wr g (.int .u64 (hi s)) (.int .u64 (lo s)) ∧ Two wr w.heap.size (.int .i64 (hi x)) (.int .u64 (lo x)) ∧ w.heap.size < g ∧ Below w.heap.size w wr

set_option maxRecDepth 4000 in
set_option maxHeartbeats 2000000 in
theorem text_any (x : Int) (w : World) (hx : I128 x) : Calls Try.prog 15 #[.agg #[.int .i64 (hi x), .int .u64 (lo x)]] w fun e w' => e = .returned (.string (bs (txt x))) ∧ Below w.heap.size w w' := by
  have hu := ab_u128 hx
  have hA := Lib.hid (fun W => absolute_any x W hx)
  have hD := fun (m : Int) (hm : U128 m) => Lib.hid (fun W => divide_any m 10 W hm (by unfold U64; omega) (by omega))
  have hD1 := hD (ab x) hu
  have hT : txt x = (if x < 0 then [45] else []) ++ full (ab x).toNat := rfl
  have hL := full_le hu
  have hneg := hi_neg x
  generalize ab x = m at *
  have hm0 := hu.1
  have r0 : 0 ≤ m % 10 ∧ m % 10 < 10 := by omega
  have HS := Lib.hid (TRel.start hm0)
  have HD := Lib.hid (digit_at (m % 10) r0.1 r0.2)
  have hdiv : m / 10 ≤ m := by omega
  generalize m / 10 = s0 at *
  generalize m % 10 = d0 at *
  go_enter Try.func15, Try.ntmps15
  go_wp2_with fail
  refine (hA.out _).mono ?_
  rintro e w1 ⟨rfl, hb1⟩
  obtain ⟨cc, cd, cf, cg⟩ := later2 hb1 (g := w.heap.size) (u := .int .i64 (hi x)) (v := .int .u64 (lo x)) (by simp [go_sem]) (by simp [go_sem]) (by simp [go_sem]) (by simp [go_sem])
  have cz : w.heap.size < w1.heap.size := World.block_lt_of_cell? _ _ cc
  have b1 : Below w.heap.size w w1 := bl2 hb1 (by repeat (first | assumption | exact Below.refl _ _ | refine Below.setCell ?_ (by first | exact Nat.le_refl _ | (simp; done) | (simp; omega) | omega) _ | refine Below.alloc ?_ (by first | exact Nat.le_refl _ | (simp; done) | (simp; omega) | omega) _ | refine Below.drew ?_ | exact Nat.le_refl _))
  have z1 := hb1.size
  try simp at z1
  clear hb1
  go_wp2_with fail
  refine (hD1.out _).mono ?_
  rintro e w2 ⟨rfl, hb2⟩
  obtain ⟨ec, ed, ef, eg⟩ := later2 hb2 (g := w.heap.size) (u := .int .i64 (hi x)) (v := .int .u64 (lo x)) (by simp [go_sem, *]) (by simp [go_sem, *]) (by simp [go_sem, *]) (by simp [go_sem, *])
  have ez : w.heap.size < w2.heap.size := World.block_lt_of_cell? _ _ ec
  have b2 : Below w.heap.size w w2 := bl2 hb2 (by repeat (first | assumption | exact Below.refl _ _ | refine Below.setCell ?_ (by first | exact Nat.le_refl _ | (simp; done) | (simp; omega) | omega) _ | refine Below.alloc ?_ (by first | exact Nat.le_refl _ | (simp; done) | (simp; omega) | omega) _ | refine Below.drew ?_ | exact Nat.le_refl _))
  have z2 := hb2.size
  try simp at z2
  clear hb2
  clear cc cd cf cg
  go_wp2_with fail
  rw [HD.out]
  have hb3 : Below (w2).heap.size (w2) ((w2).alloc (.cells #[.int .u64 (hi s0), .int .u64 (lo s0)] 45)) := (Below.refl _ _).alloc (Nat.le_refl _) _
  have pc : ((w2).alloc (.cells #[.int .u64 (hi s0), .int .u64 (lo s0)] 45)).cell? ⟨(w2).heap.size, 0, none⟩ = some (.int .u64 (hi s0)) := by simp [go_sem]
  have pd : ((w2).alloc (.cells #[.int .u64 (hi s0), .int .u64 (lo s0)] 45)).cell? ⟨(w2).heap.size, 1, none⟩ = some (.int .u64 (lo s0)) := by simp [go_sem]
  have pf : ((w2).alloc (.cells #[.int .u64 (hi s0), .int .u64 (lo s0)] 45)).frozen? ⟨(w2).heap.size, 0, none⟩ = false := by simp [go_sem]
  have pg : ((w2).alloc (.cells #[.int .u64 (hi s0), .int .u64 (lo s0)] 45)).frozen? ⟨(w2).heap.size, 1, none⟩ = false := by simp [go_sem]
  have pz : (w2).heap.size < ((w2).alloc (.cells #[.int .u64 (hi s0), .int .u64 (lo s0)] 45)).heap.size := by simp
  generalize (w2).alloc (.cells #[.int .u64 (hi s0), .int .u64 (lo s0)] 45) = w3 at *
  obtain ⟨gc, gd, gf, gg⟩ := later2 hb3 (g := w.heap.size) (u := .int .i64 (hi x)) (v := .int .u64 (lo x)) (by simp [go_sem, *]) (by simp [go_sem, *]) (by simp [go_sem, *]) (by simp [go_sem, *])
  have gz : w.heap.size < w3.heap.size := World.block_lt_of_cell? _ _ gc
  have b3 : Below w.heap.size w w3 := bl2 hb3 (by repeat (first | assumption | exact Below.refl _ _ | refine Below.setCell ?_ (by first | exact Nat.le_refl _ | (simp; done) | (simp; omega) | omega) _ | refine Below.alloc ?_ (by first | exact Nat.le_refl _ | (simp; done) | (simp; omega) | omega) _ | refine Below.drew ?_ | exact Nat.le_refl _))
  have z3 := hb3.size
  try simp at z3
  clear hb3
  clear ec ed ef eg
  have hgt : w.heap.size < w2.heap.size := ez
  generalize w2.heap.size = g at *
  clear hA hD1 HD
  go_loopw [4, 5] (TextLoop w g x m) (fun _ t _ => (full m.toNat).length - strLen t)
  case atStart => exact ⟨s0, _, _, HS.out, rfl, rfl, ⟨pc, pd, pf, pg⟩, ⟨gc, gd, gf, gg⟩, hgt, b3⟩
  case round =>
    obtain ⟨s, r, l, hr, rfl, rfl, ⟨p1, p2, p3, p4⟩, ⟨q1, q2, q3, q4⟩, hgt, hbe⟩ := hrel
    have HR := Lib.hid hr
    have hs0 := hr.s0
    have hsm := hr.sm
    by_cases h0 : s = 0
    · subst h0
      have hl := hr.end_
      have hls : (bs l).size = l.length := bs_size l
      have hlen : l.length ≤ 41 := by rw [hl]; exact hL
      rw [hi_0, lo_0] at *
      by_cases hx0 : x < 0
      · have ht : ⟨#[45]⟩ ++ bs l = bs (txt x) := by
          rw [show (⟨#[45]⟩ : ByteArray) = bs [45] from rfl, bs_append, hT, if_pos hx0, hl]
        have HT := Lib.hid ht
        have hn := hneg.2 hx0
        clear ht hl hT hr hneg hx0
        go_wp2_with fail
        rw [HT.out]
        go_ret
        exact ⟨rfl, hbe⟩
      · have ht : bs l = bs (txt x) := by
          rw [hT, if_neg hx0, hl]; rfl
        have HT := Lib.hid ht
        have hn : 0 ≤ hi x := by omega
        clear ht hl hT hr hneg hx0
        go_wp2_with fail
        rw [HT.out]
        go_ret
        exact ⟨rfl, hbe⟩
    · have hz := hl_ne h0
      have hlen := hr.len h0
      have hD2 := hD s ⟨hs0, by have := hu.2; omega⟩
      have r0 : 0 ≤ s % 10 ∧ s % 10 < 10 := by omega
      have HD := Lib.hid (digit_at (s % 10) r0.1 r0.2)
      have HN := Lib.hid (hr.step h0)
      have hls : (bs l).size = l.length := bs_size l
      clear hr
      generalize s % 10 = d at *
      generalize s / 10 = s' at *
      generalize hi s = a at *
      generalize lo s = b at *
      obtain rfl | ha : a = 0 ∨ ¬ a = 0 := by omega
      · have hb : ¬ b = 0 := fun e => hz ⟨rfl, e⟩
        clear hz
        go_wp2_with fail
        refine (hD2.out _).mono ?_
        rintro e w6 ⟨rfl, hb6⟩
        obtain ⟨qc, qd, qf, qg⟩ := later2 hb6 (g := w.heap.size) (u := .int .i64 (hi x)) (v := .int .u64 (lo x)) (by simp [go_sem, *]) (by simp [go_sem, *]) (by simp [go_sem, *]) (by simp [go_sem, *])
        have qz : w.heap.size < w6.heap.size := World.block_lt_of_cell? _ _ qc
        obtain ⟨pc, pd, pf, pg⟩ := later2 hb6 (g := g) (u := .int .u64 0) (v := .int .u64 b) (by simp [go_sem, *]) (by simp [go_sem, *]) (by simp [go_sem, *]) (by simp [go_sem, *])
        have pz : g < w6.heap.size := World.block_lt_of_cell? _ _ pc
        have b6 : Below w.heap.size w w6 := bl2 hb6 hbe
        clear hb6 p1 p2 p3 p4 q1 q2 q3 q4
        go_wp2_with fail
        rw [HD.out, bs_append]
        go_roundw
        case rel =>
          refine ⟨s', d, _, HN.out, rfl, rfl, ⟨?_, ?_, ?_, ?_⟩, ⟨?_, ?_, ?_, ?_⟩, hgt, ?_⟩
          all_goals (first | (simp [go_sem, *]; done) | exact (by repeat (first | assumption | exact Below.refl _ _ | refine Below.setCell ?_ (by first | exact Nat.le_refl _ | (simp; done) | (simp; omega) | omega) _ | refine Below.alloc ?_ (by first | exact Nat.le_refl _ | (simp; done) | (simp; omega) | omega) _ | refine Below.drew ?_ | exact Nat.le_refl _)))
        case measure => simp [strLen, bs_size]; omega
      · clear hz
        go_wp2_with fail
        refine (hD2.out _).mono ?_
        rintro e w6 ⟨rfl, hb6⟩
        obtain ⟨qc, qd, qf, qg⟩ := later2 hb6 (g := w.heap.size) (u := .int .i64 (hi x)) (v := .int .u64 (lo x)) (by simp [go_sem, *]) (by simp [go_sem, *]) (by simp [go_sem, *]) (by simp [go_sem, *])
        have qz : w.heap.size < w6.heap.size := World.block_lt_of_cell? _ _ qc
        obtain ⟨pc, pd, pf, pg⟩ := later2 hb6 (g := g) (u := .int .u64 a) (v := .int .u64 b) (by simp [go_sem, *]) (by simp [go_sem, *]) (by simp [go_sem, *]) (by simp [go_sem, *])
        have pz : g < w6.heap.size := World.block_lt_of_cell? _ _ pc
        have b6 : Below w.heap.size w w6 := bl2 hb6 hbe
        clear hb6 p1 p2 p3 p4 q1 q2 q3 q4
        go_wp2_with fail
        rw [HD.out, bs_append]
        go_roundw
        case rel =>
          refine ⟨s', d, _, HN.out, rfl, rfl, ⟨?_, ?_, ?_, ?_⟩, ⟨?_, ?_, ?_, ?_⟩, hgt, ?_⟩
          all_goals (first | (simp [go_sem, *]; done) | exact (by repeat (first | assumption | exact Below.refl _ _ | refine Below.setCell ?_ (by first | exact Nat.le_refl _ | (simp; done) | (simp; omega) | omega) _ | refine Below.alloc ?_ (by first | exact Nat.le_refl _ | (simp; done) | (simp; omega) | omega) _ | refine Below.drew ?_ | exact Nat.le_refl _)))
        case measure => simp [strLen, bs_size]; omega
end Go.Proofs.Ytmdomlfkehhleaa.Wt
