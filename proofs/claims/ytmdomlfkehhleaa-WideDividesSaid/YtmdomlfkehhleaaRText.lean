/-
  The contract of the reference's Text.
-/
import Derived.Test.YtmdomlfkehhleaaText
namespace Go.Proofs.Ytmdomlfkehhleaa.Wt
open Go.RowKit
open Go.Proofs.Ytmdomlfkehhleaa
open Go.Proofs.Ytmdomlfkehhleaa.Wm
open Go.Proofs.Ytmdomlfkehhleaa.Tx

/-- Where the reference's loop stands. -/
def RRel (m s : Int) (l : List UInt8) : Prop := (l = [] ∧ s = m) ∨ (l ≠ [] ∧ TRel m s l)
/-- The loop's own relation: the magnitude lies in block g. -/
def RTextLoop (w : World) (g : Nat) (m : Int) (vt : Value) (wr : World) : Prop := ∃ (s : Int) (l : List UInt8), RRel m s l ∧ vt = .string (bs l) ∧
  Two wr g (.int .u64 (hi s)) (.int .u64 (lo s)) ∧ w.heap.size < g ∧ Below w.heap.size w wr
theorem bs_ne {l : List UInt8} (h : l ≠ []) : ¬ bs l = ⟨#[]⟩ := fun e => h (bs_inj (b := []) e)

set_option maxRecDepth 4000 in
set_option maxHeartbeats 2000000 in
theorem rtext_any (x : Int) (w : World) (hx : I128 x) : Calls Try.prog 16 #[.agg #[.int .i64 (hi x), .int .u64 (lo x)]] w fun e w' => e = .returned (.string (bs (txt x))) ∧ Below w.heap.size w w' := by
  have hu := ab_u128 hx
  have hA := Lib.hid (fun W => rsplit_any x W hx)
  have hD := fun (m : Int) (hm : U128 m) => Lib.hid (fun W => rquot_any m 10 W hm (by omega) (by omega))
  have hT : txt x = (if x < 0 then [45] else []) ++ full (ab x).toNat := rfl
  have hL := full_le hu
  generalize ab x = m at *
  have hm0 := hu.1
  go_enter Try.func16, Try.ntmps16
  go_wp2_with fail
  refine (hA.out _).mono ?_
  rintro e w1 ⟨rfl, hb1⟩
  have b1 : Below w.heap.size w w1 := bl2 hb1 (by repeat (first | assumption | exact Below.refl _ _ | refine Below.setCell ?_ (by first | exact Nat.le_refl _ | (simp; done) | (simp; omega) | omega) _ | refine Below.alloc ?_ (by first | exact Nat.le_refl _ | (simp; done) | (simp; omega) | omega) _ | refine Below.drew ?_ | exact Nat.le_refl _))
  have hgt : w.heap.size < w1.heap.size := by have := hb1.size; simp at this; omega
  clear hb1
  go_wp2_with fail
  have hb3 : Below (w1).heap.size (w1) ((w1).alloc (.cells #[.int .u64 (hi m), .int .u64 (lo m)] 53)) := (Below.refl _ _).alloc (Nat.le_refl _) _
  have pc : ((w1).alloc (.cells #[.int .u64 (hi m), .int .u64 (lo m)] 53)).cell? ⟨(w1).heap.size, 0, none⟩ = some (.int .u64 (hi m)) := by simp [go_sem]
  have pd : ((w1).alloc (.cells #[.int .u64 (hi m), .int .u64 (lo m)] 53)).cell? ⟨(w1).heap.size, 1, none⟩ = some (.int .u64 (lo m)) := by simp [go_sem]
  have pf : ((w1).alloc (.cells #[.int .u64 (hi m), .int .u64 (lo m)] 53)).frozen? ⟨(w1).heap.size, 0, none⟩ = false := by simp [go_sem]
  have pg : ((w1).alloc (.cells #[.int .u64 (hi m), .int .u64 (lo m)] 53)).frozen? ⟨(w1).heap.size, 1, none⟩ = false := by simp [go_sem]
  have pz : (w1).heap.size < ((w1).alloc (.cells #[.int .u64 (hi m), .int .u64 (lo m)] 53)).heap.size := by simp
  generalize (w1).alloc (.cells #[.int .u64 (hi m), .int .u64 (lo m)] 53) = w3 at *
  have b3 : Below w.heap.size w w3 := bl2 hb3 (by repeat (first | assumption | exact Below.refl _ _ | refine Below.setCell ?_ (by first | exact Nat.le_refl _ | (simp; done) | (simp; omega) | omega) _ | refine Below.alloc ?_ (by first | exact Nat.le_refl _ | (simp; done) | (simp; omega) | omega) _ | refine Below.drew ?_ | exact Nat.le_refl _))
  have z3 := hb3.size
  try simp at z3
  clear hb3
  generalize w1.heap.size = g at *
  clear hA
  go_loopw [5] (RTextLoop w g m) (fun t _ => 1 + (full m.toNat).length - strLen t)
  case atStart => exact ⟨m, [], .inl ⟨rfl, rfl⟩, rfl, ⟨pc, pd, pf, pg⟩, hgt, b3⟩
  case round =>
    obtain ⟨s, l, hr, rfl, ⟨p1, p2, p3, p4⟩, hgt, hbe⟩ := hrel
    rcases hr with ⟨rfl, rfl⟩ | ⟨hne, hr⟩
    · have hD2 := hD s ⟨hm0, hu.2⟩
      have HN := Lib.hid (TRel.start hm0)
      have r0 : 0 ≤ s % 10 ∧ s % 10 < 10 := by omega
      have HD := Lib.hid (digit_at (s % 10) r0.1 r0.2)
      generalize s % 10 = d at *
      generalize s / 10 = s' at *
      rw [show bs [] = ⟨#[]⟩ from rfl]
      go_wp2_with fail
      refine (hD2.out _).mono ?_
      rintro e w6 ⟨rfl, hb6⟩
      obtain ⟨pc, pd, pf, pg⟩ := later2 hb6 (g := g) (u := .int .u64 (hi s)) (v := .int .u64 (lo s)) (by simp [go_sem, *]) (by simp [go_sem, *]) (by simp [go_sem, *]) (by simp [go_sem, *])
      have pz : g < w6.heap.size := World.block_lt_of_cell? _ _ pc
      have b6 : Below w.heap.size w w6 := bl2 hb6 hbe
      have hg6 : w.heap.size < w6.heap.size := by omega
      clear hb6 p1 p2 p3 p4
      go_wp2_with fail
      rw [HD.out, show (⟨#[]⟩ : ByteArray) = bs [] from rfl, bs_append, List.append_nil]
      go_roundw
      case rel =>
        refine ⟨s', _, .inr ⟨by simp, HN.out⟩, rfl, ⟨?_, ?_, ?_, ?_⟩, hgt, ?_⟩
        all_goals (first | (simp [go_sem, *]; done) | exact (by repeat (first | assumption | exact Below.refl _ _ | refine Below.setCell ?_ (by first | exact Nat.le_refl _ | (simp; done) | (simp; omega) | omega) _ | refine Below.alloc ?_ (by first | exact Nat.le_refl _ | (simp; done) | (simp; omega) | omega) _ | refine Below.drew ?_ | exact Nat.le_refl _)))
      case measure => simp [strLen, bs_size]; try omega
    · have hs0 := hr.s0
      have hsm := hr.sm
      have hnb : (bs l).toList.isEmpty = false := by rw [← decide_eq_emptyBytes]; exact decide_eq_false (bs_ne hne)
      have hls : (bs l).size = l.length := bs_size l
      by_cases h0 : s = 0
      · subst h0
        have hl := hr.end_
        have hlen : l.length ≤ 41 := by rw [hl]; exact hL
        rw [hi_0, lo_0] at *
        by_cases hx0 : x < 0
        · have ht : ⟨#[45]⟩ ++ bs l = bs (txt x) := by
            rw [show (⟨#[45]⟩ : ByteArray) = bs [45] from rfl, bs_append, hT, if_pos hx0, hl]
          have HT := Lib.hid ht
          clear ht hl hT hr
          go_wp2_with fail
          rw [HT.out]
          go_ret
          exact ⟨rfl, hbe⟩
        · have ht : bs l = bs (txt x) := by
            rw [hT, if_neg hx0, hl]; rfl
          have HT := Lib.hid ht
          clear ht hl hT hr
          go_wp2_with fail
          rw [HT.out]
          go_ret
          exact ⟨rfl, hbe⟩
      · have hz := hl_ne h0
        have hlen := hr.len h0
        have hD2 := hD s ⟨hs0, by have := hu.2; omega⟩
        have HN := Lib.hid (hr.step h0)
        have hhi := (hi_bdu (x := s) ⟨hs0, by have := hu.2; omega⟩).1
        have hlo := (lo_bd s).1
        clear hr
        have r0 : 0 ≤ s % 10 ∧ s % 10 < 10 := by omega
        have HD := Lib.hid (digit_at (s % 10) r0.1 r0.2)
        generalize s % 10 = d at *
        generalize s / 10 = s' at *
        generalize hi s = a at *
        generalize lo s = b at *
        obtain rfl | ha : a = 0 ∨ 0 < a := by omega
        · have hb : 0 < b := by omega
          clear hz
          go_wp2_with fail
          refine (hD2.out _).mono ?_
          rintro e w6 ⟨rfl, hb6⟩
          obtain ⟨pc, pd, pf, pg⟩ := later2 hb6 (g := g) (u := .int .u64 0) (v := .int .u64 b) (by simp [go_sem, *]) (by simp [go_sem, *]) (by simp [go_sem, *]) (by simp [go_sem, *])
          have pz : g < w6.heap.size := World.block_lt_of_cell? _ _ pc
          have b6 : Below w.heap.size w w6 := bl2 hb6 hbe
          have hg6 : w.heap.size < w6.heap.size := by omega
          clear hb6 p1 p2 p3 p4
          go_wp2_with fail
          rw [HD.out, bs_append]
          go_roundw
          case rel =>
            refine ⟨s', _, .inr ⟨by simp, HN.out⟩, rfl, ⟨?_, ?_, ?_, ?_⟩, hgt, ?_⟩
            all_goals (first | (simp [go_sem, *]; done) | exact (by repeat (first | assumption | exact Below.refl _ _ | refine Below.setCell ?_ (by first | exact Nat.le_refl _ | (simp; done) | (simp; omega) | omega) _ | refine Below.alloc ?_ (by first | exact Nat.le_refl _ | (simp; done) | (simp; omega) | omega) _ | refine Below.drew ?_ | exact Nat.le_refl _)))
          case measure => simp [strLen, bs_size]; try omega
        · clear hz
          go_wp2_with fail
          refine (hD2.out _).mono ?_
          rintro e w6 ⟨rfl, hb6⟩
          obtain ⟨pc, pd, pf, pg⟩ := later2 hb6 (g := g) (u := .int .u64 a) (v := .int .u64 b) (by simp [go_sem, *]) (by simp [go_sem, *]) (by simp [go_sem, *]) (by simp [go_sem, *])
          have pz : g < w6.heap.size := World.block_lt_of_cell? _ _ pc
          have b6 : Below w.heap.size w w6 := bl2 hb6 hbe
          have hg6 : w.heap.size < w6.heap.size := by omega
          clear hb6 p1 p2 p3 p4
          go_wp2_with fail
          rw [HD.out, bs_append]
          go_roundw
          case rel =>
            refine ⟨s', _, .inr ⟨by simp, HN.out⟩, rfl, ⟨?_, ?_, ?_, ?_⟩, hgt, ?_⟩
            all_goals (first | (simp [go_sem, *]; done) | exact (by repeat (first | assumption | exact Below.refl _ _ | refine Below.setCell ?_ (by first | exact Nat.le_refl _ | (simp; done) | (simp; omega) | omega) _ | refine Below.alloc ?_ (by first | exact Nat.le_refl _ | (simp; done) | (simp; omega) | omega) _ | refine Below.drew ?_ | exact Nat.le_refl _)))
          case measure => simp [strLen, bs_size]; try omega
end Go.Proofs.Ytmdomlfkehhleaa.Wt
