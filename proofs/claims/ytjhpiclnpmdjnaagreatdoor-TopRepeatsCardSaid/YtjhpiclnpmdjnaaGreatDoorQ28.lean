/-
  Parts of the proof: Y1, Y2.
-/
import Derived.Test.YtjhpiclnpmdjnaaGreatDoorQ24
import Derived.Test.YtjhpiclnpmdjnaaGreatDoorQ27
namespace Go.Proofs.YtjhpiclnpmdjnaaGreatDoor.Bm
open Go Go.RowKit
open Go.Proofs.YtjhpiclnpmdjnaaGreatDoor
open Go.Proofs.YtjhpiclnpmdjnaaGreatDoor.Kl (byt byt_get)
open Go.Proofs.YtjhpiclnpmdjnaaGreatDoor.Ln (flat flat_len flat_get flat_mem RowIn OwnR Idx bl2 results2_cell Blk_setRow_same Blk_setRow_ne Below_setRow)
set_option linter.unusedSimpArgs false
set_option linter.unusedVariables false
set_option maxRecDepth 100000
theorem IsN.mk (n : Int) : IsN (.returned (.int .i64 n)) := ⟨n, rfl⟩
theorem IsB.mk (b : Bool) : IsB (.returned (.bool b)) := ⟨b, rfl⟩
def CntU (n : Nat) (w : World) (g : Nat) (s : Value) (W : World) : Prop := ∃ k : Nat, k + g = n - 1 + 1 ∧ 1 ≤ k ∧ s = .int .i64 k ∧ w = W
def CntB (n : Nat) (w : World) (g : Nat) (s : Value) (W : World) : Prop := ∃ k : Nat, k + g = n ∧ s = .int .i64 k ∧ Below w.heap.size w W
set_option maxHeartbeats 8000000 in
theorem valid04_any (a : Int) (w : World) : Calls Tryz.prog 37 #[.int .i64 a] w fun e w' => IsB e ∧ w = w' := by
  go_enter Tryz.func37, Tryz.ntmps37
  go_wp2_with fail
  all_goals (go_ret; exact ⟨⟨_, rfl⟩, rfl⟩)
set_option maxHeartbeats 8000000 in
theorem good11_any (a : Int) (w : World) : Calls Tryz.prog 191 #[.int .i64 a] w fun e w' => IsB e ∧ w = w' := by
  go_enter Tryz.func191, Tryz.ntmps191
  go_wp2_with fail
  all_goals (go_ret; exact ⟨⟨_, rfl⟩, rfl⟩)
set_option maxHeartbeats 8000000 in
theorem scalar_any (a : Int) (w : World) : Calls Tryz.prog 233 #[.int .i64 a] w fun e w' => IsB e ∧ w = w' := by
  go_enter Tryz.func233, Tryz.ntmps233
  go_wp2_with fail
  all_goals (go_ret; exact ⟨⟨_, rfl⟩, rfl⟩)
set_option maxHeartbeats 8000000 in
theorem opnds_any (a : Int) (w : World) : Calls Tryz.prog 208 #[.int .i64 a] w fun e w' => IsN e ∧ w = w' := by
  go_enter Tryz.func208, Tryz.ntmps208
  go_wp2_with fail
  all_goals (go_ret; exact ⟨⟨_, rfl⟩, rfl⟩)
set_option maxHeartbeats 8000000 in
theorem most_any (a : Int) (w : World) : Calls Tryz.prog 209 #[.int .i64 a] w fun e w' => IsN e ∧ w = w' := by
  go_enter Tryz.func209, Tryz.ntmps209
  go_wp2_with fail
  all_goals (go_ret; exact ⟨⟨_, rfl⟩, rfl⟩)
set_option maxHeartbeats 8000000 in
theorem prod11_any (a b : Int) (w : World) : Calls Tryz.prog 248 #[.int .i64 a, .int .i64 b] w fun e w' => IsNB e ∧ w = w' := by
  go_enter Tryz.func248, Tryz.ntmps248
  go_wp2_with fail
  refine (scalar_any _ _).mono ?_
  rintro e w' ⟨⟨q, rfl⟩, rfl⟩
  cases q
  · go_wp2_with fail
    go_ret2
    exact ⟨⟨_, _, rfl⟩, rfl⟩
  · go_wp2_with fail
    refine (scalar_any _ _).mono ?_
    rintro e w' ⟨⟨q, rfl⟩, rfl⟩
    cases q
    all_goals go_wp2_with fail
    all_goals (go_ret2; exact ⟨⟨_, _, rfl⟩, rfl⟩)
set_option maxHeartbeats 8000000 in
theorem name15_any (s : ByteArray) (w : World) (hs : s.size ≤ maxLen) : Calls Tryz.prog 68 #[.string s] w fun e w' => IsB e ∧ w = w' := by
  have hm : s.size ≤ 9223372036854775807 := by unfold maxLen at hs; omega
  clear hs
  by_cases e1 : s.size < 1
  · obtain rfl : s = ByteArray.empty := by
      obtain ⟨⟨l⟩⟩ := s
      have : l = [] := List.eq_nil_of_length_eq_zero (by have : l.length < 1 := e1; omega)
      subst this
      rfl
    go_enter Tryz.func68, Tryz.ntmps68
    go_wp2_with fail
    all_goals (go_ret; exact ⟨⟨_, rfl⟩, rfl⟩)
  have hb0 := byt_get (s := s) (j := 0) (by omega)
  have hc0 := (s[0]'(by omega)).toNat_lt
  go_enter Tryz.func68, Tryz.ntmps68
  by_cases a1 : 16 < s.size
  · go_wp2_with fail
    all_goals (go_ret; exact ⟨⟨_, rfl⟩, rfl⟩)
  by_cases a2 : byt s 0 < 97
  · go_wp2_with fail
    all_goals (go_ret; exact ⟨⟨_, rfl⟩, rfl⟩)
  by_cases a3 : 122 < byt s 0
  · go_wp2_with fail
    all_goals (go_ret; exact ⟨⟨_, rfl⟩, rfl⟩)
  go_wp2_with fail
  all_goals first
    | (go_ret; exact ⟨⟨_, rfl⟩, rfl⟩)
    | skip
  all_goals
    go_loopg [3] (s.size - 1) (CntU s.size w)
    case atStart => exact ⟨1, by omega, by omega, rfl, rfl⟩
    case round =>
      obtain ⟨i, hi, hi1, rfl, rfl⟩ := hrel
      repeat (rename (_ ∧ _) => hq; clear hq)
      repeat (rename (¬ (s.toList = [])) => hq; clear hq)
      by_cases hlt : i < s.size
      · have hb := byt_get hlt
        have hc := (s[i]'hlt).toNat_lt
        go_wp2_with fail
        all_goals first
          | (go_ret; exact ⟨⟨_, rfl⟩, rfl⟩)
          | (go_roundg (gk - 1)
             case measure => omega
             case rel => exact ⟨i + 1, by omega, by omega, by go_num, rfl⟩)
      · go_wp2_with fail
        go_ret
        exact ⟨⟨_, rfl⟩, rfl⟩
set_option maxHeartbeats 8000000 in
theorem name18_any (s : ByteArray) (w : World) (hs : s.size ≤ maxLen) : Calls Tryz.prog 32 #[.string s] w fun e w' => IsB e ∧ w = w' := by
  have hm : s.size ≤ 9223372036854775807 := by unfold maxLen at hs; omega
  clear hs
  by_cases e1 : s.size < 1
  · obtain rfl : s = ByteArray.empty := by
      obtain ⟨⟨l⟩⟩ := s
      have : l = [] := List.eq_nil_of_length_eq_zero (by have : l.length < 1 := e1; omega)
      subst this
      rfl
    go_enter Tryz.func32, Tryz.ntmps32
    go_wp2_with fail
    all_goals (go_ret; exact ⟨⟨_, rfl⟩, rfl⟩)
  have hb0 := byt_get (s := s) (j := 0) (by omega)
  have hc0 := (s[0]'(by omega)).toNat_lt
  go_enter Tryz.func32, Tryz.ntmps32
  by_cases a1 : 16 < s.size
  · go_wp2_with fail
    all_goals (go_ret; exact ⟨⟨_, rfl⟩, rfl⟩)
  by_cases a2 : byt s 0 < 97
  · go_wp2_with fail
    all_goals (go_ret; exact ⟨⟨_, rfl⟩, rfl⟩)
  by_cases a3 : 122 < byt s 0
  · go_wp2_with fail
    all_goals (go_ret; exact ⟨⟨_, rfl⟩, rfl⟩)
  go_wp2_with fail
  all_goals first
    | (go_ret; exact ⟨⟨_, rfl⟩, rfl⟩)
    | skip
  all_goals
    go_loopg [3] (s.size - 1) (CntU s.size w)
    case atStart => exact ⟨1, by omega, by omega, rfl, rfl⟩
    case round =>
      obtain ⟨i, hi, hi1, rfl, rfl⟩ := hrel
      repeat (rename (_ ∧ _) => hq; clear hq)
      repeat (rename (¬ (s.toList = [])) => hq; clear hq)
      by_cases hlt : i < s.size
      · have hb := byt_get hlt
        have hc := (s[i]'hlt).toNat_lt
        go_wp2_with fail
        all_goals first
          | (go_ret; exact ⟨⟨_, rfl⟩, rfl⟩)
          | (go_roundg (gk - 1)
             case measure => omega
             case rel => exact ⟨i + 1, by omega, by omega, by go_num, rfl⟩)
      · go_wp2_with fail
        go_ret
        exact ⟨⟨_, rfl⟩, rfl⟩
set_option maxHeartbeats 8000000 in
theorem name07_any (s : ByteArray) (w : World) (hs : s.size ≤ maxLen) : Calls Tryz.prog 211 #[.string s] w fun e w' => IsB e ∧ w = w' := by
  have hm : s.size ≤ 9223372036854775807 := by unfold maxLen at hs; omega
  clear hs
  by_cases e1 : s.size < 1
  · go_enter Tryz.func211, Tryz.ntmps211
    go_wp2_with fail
    all_goals (go_ret; exact ⟨⟨_, rfl⟩, rfl⟩)
  have hb0 := byt_get (s := s) (j := 0) (by omega)
  have hc0 := (s[0]'(by omega)).toNat_lt
  go_enter Tryz.func211, Tryz.ntmps211
  go_wp2_with fail
  all_goals first
    | (go_ret; exact ⟨⟨_, rfl⟩, rfl⟩)
    | skip
  all_goals
    go_loopg [3] s.size (CntS s.size w)
    case atStart => exact ⟨0, by omega, rfl, rfl⟩
    case round =>
      obtain ⟨i, hi, rfl, rfl⟩ := hrel
      by_cases hlt : i < s.size
      · have hb := byt_get hlt
        have hc := (s[i]'hlt).toNat_lt
        go_wp2_with fail
        all_goals first
          | (go_ret; exact ⟨⟨_, rfl⟩, rfl⟩)
          | (go_roundg (gk - 1)
             case measure => omega
             case rel => exact ⟨i + 1, by omega, by go_num, rfl⟩)
      · go_wp2_with fail
        go_ret
        exact ⟨⟨_, rfl⟩, rfl⟩
def IsB3 (s : ByteArray) (e : Ending) : Prop := ∃ b : Bool, e = .returned (.bool b) ∧ (b = true → s.size = 3)
set_option maxHeartbeats 8000000 in
theorem code19_any (s : ByteArray) (w : World) (hs : s.size ≤ maxLen) : Calls Tryz.prog 170 #[.string s] w fun e w' => IsB3 s e ∧ w = w' := by
  have hm : s.size ≤ 9223372036854775807 := by unfold maxLen at hs; omega
  clear hs
  by_cases e1 : s.size = 3
  · go_enter Tryz.func170, Tryz.ntmps170
    go_wp2_with fail
    go_loopg [3] s.size (CntS s.size w)
    case atStart => exact ⟨0, by omega, rfl, rfl⟩
    case round =>
      obtain ⟨i, hi, rfl, rfl⟩ := hrel
      by_cases hlt : i < s.size
      · have hb := byt_get hlt
        have hc := (s[i]'hlt).toNat_lt
        go_wp2_with fail
        all_goals first
          | (go_ret; exact ⟨⟨_, rfl, fun _ => e1⟩, rfl⟩)
          | (go_roundg (gk - 1)
             case measure => omega
             case rel => exact ⟨i + 1, by omega, by go_num, rfl⟩)
      · go_wp2_with fail
        go_ret
        exact ⟨⟨_, rfl, fun _ => e1⟩, rfl⟩
  · go_enter Tryz.func170, Tryz.ntmps170
    go_wp2_with fail
    go_ret
    exact ⟨⟨_, rfl, fun h => by cases h⟩, rfl⟩
def IsBs (s : ByteArray) (m : Int) (e : Ending) : Prop := ∃ b : Bool, e = .returned (.bool b) ∧ (b = true → (s.size : Int) ≤ m)
set_option maxHeartbeats 8000000 in
theorem printed_any (s : ByteArray) (m l : Int) (w : World) (hs : s.size ≤ maxLen) : Calls Tryz.prog 115 #[.string s, .int .i64 m, .int .u8 l] w fun e w' => IsBs s m e ∧ w = w' := by
  have hm : s.size ≤ 9223372036854775807 := by unfold maxLen at hs; omega
  clear hs
  by_cases e1 : m < (s.size : Int)
  · go_enter Tryz.func115, Tryz.ntmps115
    go_wp2_with fail
    go_ret
    exact ⟨⟨_, rfl, fun h => by cases h⟩, rfl⟩
  · have E1 := Lib.hid (show (s.size : Int) ≤ m by omega)
    go_enter Tryz.func115, Tryz.ntmps115
    go_wp2_with fail
    go_loopg [7] s.size (CntS s.size w)
    case atStart => exact ⟨0, by omega, rfl, rfl⟩
    case round =>
      obtain ⟨i, hi, rfl, rfl⟩ := hrel
      by_cases hlt : i < s.size
      · have hb := byt_get hlt
        have hc := (s[i]'hlt).toNat_lt
        go_wp2_with fail
        all_goals first
          | (go_ret; exact ⟨⟨_, rfl, fun _ => E1.out⟩, rfl⟩)
          | (go_roundg (gk - 1)
             case measure => omega
             case rel => exact ⟨i + 1, by omega, by go_num, rfl⟩)
      · go_wp2_with fail
        go_ret
        exact ⟨⟨_, rfl, fun _ => E1.out⟩, rfl⟩
set_option maxHeartbeats 8000000 in
theorem key07_any (s : ByteArray) (w : World) (hs : s.size ≤ maxLen) : Calls Tryz.prog 79 #[.string s] w fun e w' => IsBs s 48 e ∧ w = w' := by
  have HS := Lib.hid hs
  by_cases e1 : s.size < 1
  · have hm : s.size ≤ 9223372036854775807 := by omega
    clear hs
    go_enter Tryz.func79, Tryz.ntmps79
    go_wp2_with fail
    go_ret
    exact ⟨⟨_, rfl, fun h => by cases h⟩, rfl⟩
  · have hm : s.size ≤ 9223372036854775807 := by unfold maxLen at hs; omega
    clear hs
    go_enter Tryz.func79, Tryz.ntmps79
    go_wp2_with fail
    refine (printed_any s 48 33 _ HS.out).mono ?_
    rintro e w' ⟨⟨b, rfl, hb⟩, rfl⟩
    have HB := Lib.hid hb
    clear hb
    go_wp2_with fail
    go_ret
    exact ⟨⟨_, rfl, HB.out⟩, rfl⟩
def ExR (n : Nat) (w : World) (g : Nat) (s0 s5 : Value) (W : World) : Prop := ∃ k : Nat, k + g = n ∧ s5 = .int .i64 k ∧ (∃ h : Int, s0 = .int .u64 h) ∧ w = W
def IsV (e : Ending) : Prop := ∃ n : Int, e = .returned (.int .u64 n)
set_option maxHeartbeats 8000000 in
theorem ext08_any (h : Int) (s : ByteArray) (w : World) (hs : s.size ≤ maxLen) : Calls Tryz.prog 142 #[.int .u64 h, .string s] w fun e w' => IsV e ∧ w = w' := by
  have hm : s.size ≤ 9223372036854775807 := by unfold maxLen at hs; omega
  clear hs
  go_enter Tryz.func142, Tryz.ntmps142
  go_wp2_with fail
  go_loopg [0, 5] s.size (ExR s.size w)
  case atStart => exact ⟨0, by omega, rfl, ⟨_, rfl⟩, rfl⟩
  case round =>
    obtain ⟨i, hi, rfl, ⟨h, rfl⟩, rfl⟩ := hrel
    by_cases hlt : i < s.size
    · have hb := byt_get hlt
      have hc := (s[i]'hlt).toNat_lt
      go_wp2_with fail
      go_roundg (gk - 1)
      case measure => omega
      case rel => exact ⟨i + 1, by omega, by go_num, ⟨_, rfl⟩, rfl⟩
    · go_wp2_with fail
      go_ret
      exact ⟨⟨_, rfl⟩, rfl⟩
set_option maxHeartbeats 8000000 in
theorem hash08_any (s : ByteArray) (w : World) (hs : s.size ≤ maxLen) : Calls Tryz.prog 143 #[.string s] w fun e w' => IsV e ∧ w = w' := by
  have HS := Lib.hid hs
  clear hs
  go_enter Tryz.func143, Tryz.ntmps143
  go_wp2_with fail
  refine (ext08_any _ s _ HS.out).mono ?_
  rintro e w' ⟨⟨n, rfl⟩, rfl⟩
  go_wp2_with fail
  go_ret
  exact ⟨⟨_, rfl⟩, rfl⟩
theorem row_take {α : Type} {enc : α → List Value} {W : World} {a : Option Addr} {xs : List α} (k : Nat) (h : RowIn enc W a xs) : RowIn enc W a (xs.take k) := by
  intro h0
  rw [List.length_take] at h0
  obtain ⟨b, off, ha, hc⟩ := h (by omega)
  refine ⟨b, off, ha, fun j u hj => hc j u ?_⟩
  have e : flat enc xs = flat enc (xs.take k) ++ flat enc (xs.drop k) := by rw [← flat_app, List.take_append_drop]
  rw [e, List.getElem?_append_left (List.getElem?_eq_some_iff.1 hj).1]
  exact hj
theorem row_drop {α : Type} {enc : α → List Value} {n : Nat} (hn : ∀ x, (enc x).length = n) {W : World} {b off : Nat} {xs : List α} (k : Nat) (h : RowIn enc W (some ⟨b, off, none⟩) xs) : RowIn enc W (some ⟨b, off + k * n, none⟩) (xs.drop k) := by
  intro h0
  rw [List.length_drop] at h0
  obtain ⟨b', off', ha, hc⟩ := h (by omega)
  cases ha
  refine ⟨b, off + k * n, rfl, fun j u hj => ?_⟩
  have e : flat enc xs = flat enc (xs.take k) ++ flat enc (xs.drop k) := by rw [← flat_app, List.take_append_drop]
  have hl : (flat enc (xs.take k)).length = k * n := by rw [flat_len hn, List.length_take]; congr 1; omega
  have := hc (k * n + j) u (by rw [e, List.getElem?_append_right (by omega), hl, Nat.add_sub_cancel_left]; exact hj)
  rwa [← Nat.add_assoc] at this
theorem slto_hd (a : Option Addr) (n c k : Nat) (h : k ≤ c) (W : World) : (Instr.slice 30 (.slice a n c) none (some (.int .i64 k)) none).run Tryz.prog W = .ok (.slice a k c) W := by
  have h2 : ((k : Int)).toNat = k := by omega
  simp [Instr.slice, run_underlying Tryz.underlying30, Instr.sliceBounds, Instr.sliceBound, asIntOf, go_sem, h2, h]
theorem slto_gl (a : Option Addr) (n c k : Nat) (h : k ≤ c) (W : World) : (Instr.slice 24 (.slice a n c) none (some (.int .i64 k)) none).run Tryz.prog W = .ok (.slice a k c) W := by
  have h2 : ((k : Int)).toNat = k := by omega
  simp [Instr.slice, run_underlying Tryz.underlying24, Instr.sliceBounds, Instr.sliceBound, asIntOf, go_sem, h2, h]
theorem slto_en (a : Option Addr) (n c k : Nat) (h : k ≤ c) (W : World) : (Instr.slice 29 (.slice a n c) none (some (.int .i64 k)) none).run Tryz.prog W = .ok (.slice a k c) W := by
  have h2 : ((k : Int)).toNat = k := by omega
  simp [Instr.slice, run_underlying Tryz.underlying29, Instr.sliceBounds, Instr.sliceBound, asIntOf, go_sem, h2, h]
set_option maxHeartbeats 8000000 in
theorem rmfind_any (a : Option Addr) (cap : Nat) (l : List Cu) (s : ByteArray) (w : World) (hl : l.length ≤ maxLen) (h : RowIn cuenc w a l) :
    Calls Tryz.prog 69 #[.slice a l.length cap, .string s] w fun e w' => (∃ (x : Cu) (q : Bool), e = .returned (.tuple #[(.agg #[.string (x).cd, .int .i64 (x).dg]), .bool q])) ∧ Below w.heap.size w w' := by
  have H := Lib.hid h
  have hm : l.length ≤ 9223372036854775807 := by unfold maxLen at hl; omega
  clear hl
  have cw : Below w.heap.size w (w.alloc (.cells #[.string { data := #[] }, .int .i64 0] 62)) := Bk.be
  have kz : Bk.Blk (w.alloc (.cells #[.string { data := #[] }, .int .i64 0] 62)) w.heap.size #[.string { data := #[] }, .int .i64 0] 62 := Bk.Blk.nw10
  clear h
  go_enter Tryz.func69, Tryz.ntmps69
  go_upto_region 1 with fail
  have hg : w.heap.size < (w.alloc (.cells #[.string { data := #[] }, .int .i64 0] 62)).heap.size := kz.lt
  generalize (w.alloc (.cells #[.string { data := #[] }, .int .i64 0] 62)) = w1 at *
  go_wp2_with fail
  go_loopg [6] l.length (SR2 w l.length (fun _ => True) #[.string { data := #[] }, .int .i64 0] 62)
  case atStart => exact ⟨0, by omega, rfl, trivial, kz, cw⟩
  case round =>
    clear kz cw hg
    obtain ⟨k, hk, rfl, -, kz, hbr⟩ := hrel
    have hg := kz.lt
    by_cases hlt : k < l.length
    · obtain ⟨b, off, rfl, hc⟩ := rowat cuenc_len H.out (by omega)
      have hm1 := range_later hbr (hc k hlt)
      clear hc
      obtain ⟨d, hd⟩ : ∃ d, d = l[k]! := ⟨_, rfl⟩
      rw [← hd] at hm1
      clear hd
      have m0 : wr.cell? ⟨b, off + k * 2, none⟩ = some (.string d.cd) := hm1 0 _ rfl
      go_wp2_with (first | (refine wpList_load_mid rfl 62 _ rfl _ (off + k * 2) (by first | rfl | simp) ([.string (d).cd, .int .i64 (d).dg]) _ (hm1) Tryz.underlying62 rfl (by kernel_rfl) ?_) | (refine wpList_store_row rfl 62 _ _ rfl _ _ rfl rfl _ _ (kz) (by kernel_rfl) rfl (by simp [Value.oneCell']) ?_))
      all_goals first
        | (go_roundg (gk - 1)
           case measure => omega
           case rel => exact ⟨k + 1, by omega, by go_num, trivial, kz, hbr⟩)
        | ((try simp only [Exit.inBlock, Exit.then])
           refine bodyPost_ret (results2_cell Tryz.results69 _ _ _ _ _ _ _ rfl (Blk_setRow_same kz) Tryz.underlying62 rfl (by kernel_rfl)) rfl ?_
           exact ⟨⟨d, _, rfl⟩, Below_setRow hbr (Nat.le_refl _) _⟩)
    · go_wp2_with ((refine wpList_store_row rfl 62 _ _ rfl _ _ rfl rfl _ _ (kz) (by kernel_rfl) rfl (by simp [Value.oneCell']) ?_))
      (try simp only [Exit.inBlock, Exit.then])
      refine bodyPost_ret (results2_cell Tryz.results69 _ _ _ _ _ _ _ rfl (Blk_setRow_same kz) Tryz.underlying62 rfl (by kernel_rfl)) rfl ?_
      exact ⟨⟨default, _, rfl⟩, Below_setRow hbr (Nat.le_refl _) _⟩
set_option maxHeartbeats 8000000 in
theorem rclfind_any (a : Option Addr) (cap : Nat) (l : List ClS) (s : ByteArray) (w : World) (hl : l.length ≤ maxLen) (h : RowIn clenc w a l) :
    Calls Tryz.prog 70 #[.slice a l.length cap, .string s] w fun e w' => (∃ (x : ClS) (q : Bool), e = .returned (.tuple #[(.agg #[.string (x).c.nm, .slice (x).wa (x).c.wk.length (x).wc, .slice (x).ha (x).c.hol.length (x).hc]), .bool q])) ∧ Below w.heap.size w w' := by
  have H := Lib.hid h
  have hm : l.length ≤ 9223372036854775807 := by unfold maxLen at hl; omega
  clear hl
  have cw : Below w.heap.size w (w.alloc (.cells #[.string { data := #[] }, .slice none 0 0, .slice none 0 0] 55)) := Bk.be
  have kz : Bk.Blk (w.alloc (.cells #[.string { data := #[] }, .slice none 0 0, .slice none 0 0] 55)) w.heap.size _ 55 := Bk.Blk.nw10
  clear h
  go_enter Tryz.func70, Tryz.ntmps70
  go_upto_region 1 with fail
  have hg : w.heap.size < (w.alloc (.cells #[.string { data := #[] }, .slice none 0 0, .slice none 0 0] 55)).heap.size := kz.lt
  generalize (w.alloc (.cells _ 55)) = w1 at *
  go_wp2_with fail
  go_loopg [6] l.length (SR2 w l.length (fun _ => True) #[.string { data := #[] }, .slice none 0 0, .slice none 0 0] 55)
  case atStart => exact ⟨0, by omega, rfl, trivial, kz, cw⟩
  case round =>
    clear kz cw hg
    obtain ⟨k, hk, rfl, -, kz, hbr⟩ := hrel
    have hg := kz.lt
    by_cases hlt : k < l.length
    · obtain ⟨b, off, rfl, hc⟩ := rowat clenc_len H.out (by omega)
      have hm1 := range_later hbr (hc k hlt)
      clear hc
      obtain ⟨d, hd⟩ : ∃ d, d = l[k]! := ⟨_, rfl⟩
      rw [← hd] at hm1
      clear hd
      have m0 : wr.cell? ⟨b, off + k * 3, none⟩ = some (.string d.c.nm) := hm1 0 _ rfl
      go_wp2_with (first | (refine wpList_load_mid rfl 55 _ rfl _ (off + k * 3) (by first | rfl | simp) ([.string (d).c.nm, .slice (d).wa (d).c.wk.length (d).wc, .slice (d).ha (d).c.hol.length (d).hc]) _ (hm1) Tryz.underlying55 rfl (by kernel_rfl) ?_) | (refine wpList_store_row rfl 55 _ _ rfl _ _ rfl rfl _ _ (kz) (by kernel_rfl) rfl (by simp [Value.oneCell']) ?_))
      all_goals first
        | (go_roundg (gk - 1)
           case measure => omega
           case rel => exact ⟨k + 1, by omega, by go_num, trivial, kz, hbr⟩)
        | ((try simp only [Exit.inBlock, Exit.then])
           refine bodyPost_ret (results2_cell Tryz.results70 _ _ _ _ _ _ _ rfl (Blk_setRow_same kz) Tryz.underlying55 rfl (by kernel_rfl)) rfl ?_
           exact ⟨⟨d, _, rfl⟩, Below_setRow hbr (Nat.le_refl _) _⟩)
    · go_wp2_with ((refine wpList_store_row rfl 55 _ _ rfl _ _ rfl rfl _ _ (kz) (by kernel_rfl) rfl (by simp [Value.oneCell']) ?_))
      (try simp only [Exit.inBlock, Exit.then])
      refine bodyPost_ret (results2_cell Tryz.results70 _ _ _ _ _ _ _ rfl (Blk_setRow_same kz) Tryz.underlying55 rfl (by kernel_rfl)) rfl ?_
      exact ⟨⟨default, _, rfl⟩, Below_setRow hbr (Nat.le_refl _) _⟩
set_option maxHeartbeats 8000000 in
theorem rcfind_any (a : Option Addr) (cap : Nat) (l : List Gl) (id : Int) (w : World) (hl : l.length ≤ maxLen) (h : RowIn glenc w a l) :
    Calls Tryz.prog 33 #[.slice a l.length cap, .int .i64 id] w fun e w' => (∃ (x : Gl) (q : Bool), e = .returned (.tuple #[(.agg #[.int .i64 (x).id, .int .i64 (x).pa, .int .i64 (x).ki, .string (x).nm]), .bool q])) ∧ Below w.heap.size w w' := by
  have H := Lib.hid h
  have hm : l.length ≤ 9223372036854775807 := by unfold maxLen at hl; omega
  clear hl
  have cw : Below w.heap.size w (w.alloc (.cells #[.int .i64 0, .int .i64 0, .int .i64 0, .string { data := #[] }] 64)) := Bk.be
  have kz : Bk.Blk (w.alloc (.cells #[.int .i64 0, .int .i64 0, .int .i64 0, .string { data := #[] }] 64)) w.heap.size _ 64 := Bk.Blk.nw10
  clear h
  go_enter Tryz.func33, Tryz.ntmps33
  go_upto_region 1 with fail
  have hg : w.heap.size < (w.alloc (.cells #[.int .i64 0, .int .i64 0, .int .i64 0, .string { data := #[] }] 64)).heap.size := kz.lt
  generalize (w.alloc (.cells _ 64)) = w1 at *
  go_wp2_with fail
  go_loopg [6] l.length (SR2 w l.length (fun _ => True) #[.int .i64 0, .int .i64 0, .int .i64 0, .string { data := #[] }] 64)
  case atStart => exact ⟨0, by omega, rfl, trivial, kz, cw⟩
  case round =>
    clear kz cw hg
    obtain ⟨k, hk, rfl, -, kz, hbr⟩ := hrel
    have hg := kz.lt
    by_cases hlt : k < l.length
    · obtain ⟨b, off, rfl, hc⟩ := rowat glenc_len H.out (by omega)
      have hm1 := range_later hbr (hc k hlt)
      clear hc
      obtain ⟨d, hd⟩ : ∃ d, d = l[k]! := ⟨_, rfl⟩
      rw [← hd] at hm1
      clear hd
      have m0 : wr.cell? ⟨b, off + k * 4, none⟩ = some (.int .i64 d.id) := hm1 0 _ rfl
      go_wp2_with (first | (refine wpList_load_mid rfl 64 _ rfl _ (off + k * 4) (by first | rfl | simp) ([.int .i64 (d).id, .int .i64 (d).pa, .int .i64 (d).ki, .string (d).nm]) _ (hm1) Tryz.underlying64 rfl (by kernel_rfl) ?_) | (refine wpList_store_row rfl 64 _ _ rfl _ _ rfl rfl _ _ (kz) (by kernel_rfl) rfl (by simp [Value.oneCell']) ?_))
      all_goals first
        | (go_roundg (gk - 1)
           case measure => omega
           case rel => exact ⟨k + 1, by omega, by go_num, trivial, kz, hbr⟩)
        | ((try simp only [Exit.inBlock, Exit.then])
           refine bodyPost_ret (results2_cell Tryz.results33 _ _ _ _ _ _ _ rfl (Blk_setRow_same kz) Tryz.underlying64 rfl (by kernel_rfl)) rfl ?_
           exact ⟨⟨d, _, rfl⟩, Below_setRow hbr (Nat.le_refl _) _⟩)
    · go_wp2_with ((refine wpList_store_row rfl 64 _ _ rfl _ _ rfl rfl _ _ (kz) (by kernel_rfl) rfl (by simp [Value.oneCell']) ?_))
      (try simp only [Exit.inBlock, Exit.then])
      refine bodyPost_ret (results2_cell Tryz.results33 _ _ _ _ _ _ _ rfl (Blk_setRow_same kz) Tryz.underlying64 rfl (by kernel_rfl)) rfl ?_
      exact ⟨⟨default, _, rfl⟩, Below_setRow hbr (Nat.le_refl _) _⟩
set_option maxHeartbeats 8000000 in
theorem rpar18_any (a : Option Addr) (cap : Nat) (l : List Gl) (id : Int) (w : World) (hl : l.length ≤ maxLen) (h : RowIn glenc w a l) :
    Calls Tryz.prog 66 #[.slice a l.length cap, .int .i64 id] w fun e w' => IsB e ∧ w = w' := by
  have H := Lib.hid h
  have hm : l.length ≤ 9223372036854775807 := by unfold maxLen at hl; omega
  clear hl h
  go_enter Tryz.func66, Tryz.ntmps66
  go_wp2_with fail
  go_loopg [5] l.length (CntS l.length w)
  case atStart => exact ⟨0, by omega, rfl, rfl⟩
  case round =>
    obtain ⟨k, hk, rfl, rfl⟩ := hrel
    by_cases hlt : k < l.length
    · obtain ⟨b, off, rfl, hc⟩ := rowat glenc_len H.out (by omega)
      have hm1 := hc k hlt
      clear hc
      obtain ⟨d, hd⟩ : ∃ d, d = l[k]! := ⟨_, rfl⟩
      rw [← hd] at hm1
      clear hd
      have m1 : w.cell? ⟨b, off + k * 4 + 1, none⟩ = some (.int .i64 d.pa) := hm1 1 _ rfl
      clear hm1
      go_wp2_with fail
      all_goals first
        | (go_ret; exact ⟨⟨_, rfl⟩, rfl⟩)
        | (go_roundg (gk - 1)
           case measure => omega
           case rel => exact ⟨k + 1, by omega, by go_num, rfl⟩)
    · go_wp2_with fail
      go_ret
      exact ⟨⟨_, rfl⟩, rfl⟩
set_option maxHeartbeats 8000000 in
theorem rpar26_any (a : Option Addr) (cap : Nat) (l : List Gl) (id : Int) (w : World) (hl : l.length ≤ maxLen) (h : RowIn glenc w a l) :
    Calls Tryz.prog 112 #[.slice a l.length cap, .int .i64 id] w fun e w' => IsB e ∧ w = w' := by
  have H := Lib.hid h
  have hm : l.length ≤ 9223372036854775807 := by unfold maxLen at hl; omega
  clear hl h
  go_enter Tryz.func112, Tryz.ntmps112
  go_wp2_with fail
  go_loopg [5] l.length (CntS l.length w)
  case atStart => exact ⟨0, by omega, rfl, rfl⟩
  case round =>
    obtain ⟨k, hk, rfl, rfl⟩ := hrel
    by_cases hlt : k < l.length
    · obtain ⟨b, off, rfl, hc⟩ := rowat glenc_len H.out (by omega)
      have hm1 := hc k hlt
      clear hc
      obtain ⟨d, hd⟩ : ∃ d, d = l[k]! := ⟨_, rfl⟩
      rw [← hd] at hm1
      clear hd
      have m1 : w.cell? ⟨b, off + k * 4 + 1, none⟩ = some (.int .i64 d.pa) := hm1 1 _ rfl
      clear hm1
      go_wp2_with fail
      all_goals first
        | (go_ret; exact ⟨⟨_, rfl⟩, rfl⟩)
        | (go_roundg (gk - 1)
           case measure => omega
           case rel => exact ⟨k + 1, by omega, by go_num, rfl⟩)
    · go_wp2_with fail
      go_ret
      exact ⟨⟨_, rfl⟩, rfl⟩
set_option maxHeartbeats 8000000 in
theorem rnamed_any (a : Option Addr) (cap : Nat) (l : List Hd) (s : ByteArray) (w : World) (hl : l.length ≤ maxLen) (h : RowIn hdenc w a l) :
    Calls Tryz.prog 43 #[.slice a l.length cap, .string s] w fun e w' => IsB e ∧ w = w' := by
  have H := Lib.hid h
  have hm : l.length ≤ 9223372036854775807 := by unfold maxLen at hl; omega
  clear hl h
  go_enter Tryz.func43, Tryz.ntmps43
  go_wp2_with fail
  go_loopg [5] l.length (CntS l.length w)
  case atStart => exact ⟨0, by omega, rfl, rfl⟩
  case round =>
    obtain ⟨k, hk, rfl, rfl⟩ := hrel
    by_cases hlt : k < l.length
    · obtain ⟨b, off, rfl, hc⟩ := rowat hdenc_len H.out (by omega)
      have hm1 := hc k hlt
      clear hc
      obtain ⟨d, hd⟩ : ∃ d, d = l[k]! := ⟨_, rfl⟩
      rw [← hd] at hm1
      clear hd
      have m5 : w.cell? ⟨b, off + k * 6 + 5, none⟩ = some (.string d.ke) := hm1 5 _ rfl
      clear hm1
      go_wp2_with fail
      all_goals first
        | (go_ret; exact ⟨⟨_, rfl⟩, rfl⟩)
        | (go_roundg (gk - 1)
           case measure => omega
           case rel => exact ⟨k + 1, by omega, by go_num, rfl⟩)
    · go_wp2_with fail
      go_ret
      exact ⟨⟨_, rfl⟩, rfl⟩
def FaR (w : World) (B : Bo) (n : Nat) (g : Nat) (s : Value) (W : World) : Prop := ∃ k : Nat, k + g = n ∧ s = .int .i64 k ∧ Bk.Blk W w.heap.size #[.slice (B).ua (B).us.length (B).uk, .slice (B).ka (B).kn (B).kk, .slice (B).ga (B).gs.length (B).gk, .int .i64 ((B).pl).p0, .int .i64 ((B).pl).p1, .int .i64 ((B).pl).p2, .int .i64 ((B).pl).p3, .int .i64 ((B).pl).p4, .int .i64 ((B).pl).p5, .int .i64 ((B).pl).p6, .int .i64 ((B).pl).p7, .int .i64 ((B).pl).p8, .int .i64 ((B).pl).p9, .int .i64 ((B).pl).p10, .int .i64 ((B).pl).p11, .int .i64 ((B).pl).p12, .int .i64 ((B).pl).p13, .slice (B).pa (B).ps.length (B).pk, .slice (B).aa (B).as.length (B).ak, .slice (B).ja (B).js.length (B).jk, .slice (B).ha (B).hn (B).hk, .slice (B).ba (B).bn (B).bk] 33 ∧ Bk.Blk W (w.heap.size + 1) #[.int .i64 0, .int .i64 0, .int .i64 0, .int .i64 0, .string { data := #[] }, .string { data := #[] }, .string { data := #[] }] 76 ∧ Below w.heap.size w W
set_option maxHeartbeats 8000000 in
theorem rafind_any (B : Bo) (id : Int) (w : World) (hl : B.as.length ≤ maxLen) (h : RowIn acenc w B.aa B.as) :
    Calls Tryz.prog 113 #[(.agg #[.slice (B).ua (B).us.length (B).uk, .slice (B).ka (B).kn (B).kk, .slice (B).ga (B).gs.length (B).gk, .int .i64 ((B).pl).p0, .int .i64 ((B).pl).p1, .int .i64 ((B).pl).p2, .int .i64 ((B).pl).p3, .int .i64 ((B).pl).p4, .int .i64 ((B).pl).p5, .int .i64 ((B).pl).p6, .int .i64 ((B).pl).p7, .int .i64 ((B).pl).p8, .int .i64 ((B).pl).p9, .int .i64 ((B).pl).p10, .int .i64 ((B).pl).p11, .int .i64 ((B).pl).p12, .int .i64 ((B).pl).p13, .slice (B).pa (B).ps.length (B).pk, .slice (B).aa (B).as.length (B).ak, .slice (B).ja (B).js.length (B).jk, .slice (B).ha (B).hn (B).hk, .slice (B).ba (B).bn (B).bk]), .int .i64 id] w fun e w' => (∃ (x : Ac) (q : Bool), e = .returned (.tuple #[(.agg #[.int .i64 (x).id, .int .i64 (x).op, .int .i64 (x).cl, .int .i64 (x).ex, .string (x).ow, .string (x).pr, .string (x).nu]), .bool q])) ∧ Below w.heap.size w w' := by
  have H := Lib.hid h
  have hm : B.as.length ≤ 9223372036854775807 := by unfold maxLen at hl; omega
  clear hl
  have cw : Below w.heap.size w ((w.alloc (.cells #[.slice (B).ua (B).us.length (B).uk, .slice (B).ka (B).kn (B).kk, .slice (B).ga (B).gs.length (B).gk, .int .i64 ((B).pl).p0, .int .i64 ((B).pl).p1, .int .i64 ((B).pl).p2, .int .i64 ((B).pl).p3, .int .i64 ((B).pl).p4, .int .i64 ((B).pl).p5, .int .i64 ((B).pl).p6, .int .i64 ((B).pl).p7, .int .i64 ((B).pl).p8, .int .i64 ((B).pl).p9, .int .i64 ((B).pl).p10, .int .i64 ((B).pl).p11, .int .i64 ((B).pl).p12, .int .i64 ((B).pl).p13, .slice (B).pa (B).ps.length (B).pk, .slice (B).aa (B).as.length (B).ak, .slice (B).ja (B).js.length (B).jk, .slice (B).ha (B).hn (B).hk, .slice (B).ba (B).bn (B).bk] 33)).alloc (.cells #[.int .i64 0, .int .i64 0, .int .i64 0, .int .i64 0, .string { data := #[] }, .string { data := #[] }, .string { data := #[] }] 76)) := Bk.be
  have kb : Bk.Blk ((w.alloc (.cells #[.slice (B).ua (B).us.length (B).uk, .slice (B).ka (B).kn (B).kk, .slice (B).ga (B).gs.length (B).gk, .int .i64 ((B).pl).p0, .int .i64 ((B).pl).p1, .int .i64 ((B).pl).p2, .int .i64 ((B).pl).p3, .int .i64 ((B).pl).p4, .int .i64 ((B).pl).p5, .int .i64 ((B).pl).p6, .int .i64 ((B).pl).p7, .int .i64 ((B).pl).p8, .int .i64 ((B).pl).p9, .int .i64 ((B).pl).p10, .int .i64 ((B).pl).p11, .int .i64 ((B).pl).p12, .int .i64 ((B).pl).p13, .slice (B).pa (B).ps.length (B).pk, .slice (B).aa (B).as.length (B).ak, .slice (B).ja (B).js.length (B).jk, .slice (B).ha (B).hn (B).hk, .slice (B).ba (B).bn (B).bk] 33)).alloc (.cells #[.int .i64 0, .int .i64 0, .int .i64 0, .int .i64 0, .string { data := #[] }, .string { data := #[] }, .string { data := #[] }] 76)) w.heap.size _ 33 := Bk.Blk.nw20
  have kz : Bk.Blk ((w.alloc (.cells #[.slice (B).ua (B).us.length (B).uk, .slice (B).ka (B).kn (B).kk, .slice (B).ga (B).gs.length (B).gk, .int .i64 ((B).pl).p0, .int .i64 ((B).pl).p1, .int .i64 ((B).pl).p2, .int .i64 ((B).pl).p3, .int .i64 ((B).pl).p4, .int .i64 ((B).pl).p5, .int .i64 ((B).pl).p6, .int .i64 ((B).pl).p7, .int .i64 ((B).pl).p8, .int .i64 ((B).pl).p9, .int .i64 ((B).pl).p10, .int .i64 ((B).pl).p11, .int .i64 ((B).pl).p12, .int .i64 ((B).pl).p13, .slice (B).pa (B).ps.length (B).pk, .slice (B).aa (B).as.length (B).ak, .slice (B).ja (B).js.length (B).jk, .slice (B).ha (B).hn (B).hk, .slice (B).ba (B).bn (B).bk] 33)).alloc (.cells #[.int .i64 0, .int .i64 0, .int .i64 0, .int .i64 0, .string { data := #[] }, .string { data := #[] }, .string { data := #[] }] 76)) (w.heap.size + 1) _ 76 := Bk.Blk.nw21
  clear h
  go_enter Tryz.func113, Tryz.ntmps113
  go_upto_region 1 with fail
  generalize ((w.alloc (.cells _ 33)).alloc (.cells _ 76)) = w1 at *
  go_wp2_with fail
  go_loopg [6] B.as.length (FaR w B B.as.length)
  case atStart => exact ⟨0, by omega, rfl, kb, kz, cw⟩
  case round =>
    clear kb kz cw
    obtain ⟨k, hk, rfl, kb, kz, hbr⟩ := hrel
    have hg := kz.lt
    have b18 := kb.c18
    by_cases hlt : k < B.as.length
    · obtain ⟨b, off, ha, hc⟩ := rowat acenc_len H.out (by omega)
      have hm1 := range_later hbr (hc k hlt)
      clear hc
      rw [ha] at b18
      clear ha
      obtain ⟨d, hd⟩ : ∃ d, d = B.as[k]! := ⟨_, rfl⟩
      rw [← hd] at hm1
      clear hd
      have m0 : wr.cell? ⟨b, off + k * 7, none⟩ = some (.int .i64 d.id) := hm1 0 _ rfl
      go_wp2_with (first | (refine wpList_load_mid rfl 76 _ rfl _ (off + k * 7) (by first | rfl | simp) ([.int .i64 (d).id, .int .i64 (d).op, .int .i64 (d).cl, .int .i64 (d).ex, .string (d).ow, .string (d).pr, .string (d).nu]) _ (hm1) Tryz.underlying76 rfl (by kernel_rfl) ?_) | (refine wpList_store_row rfl 76 _ _ rfl _ _ rfl rfl _ _ (kz) (by kernel_rfl) rfl (by simp [Value.oneCell']) ?_))
      all_goals first
        | (go_roundg (gk - 1)
           case measure => omega
           case rel => exact ⟨k + 1, by omega, by go_num, kb, kz, hbr⟩)
        | ((try simp only [Exit.inBlock, Exit.then])
           refine bodyPost_ret (results2_cell Tryz.results113 _ _ _ _ _ _ _ rfl (Blk_setRow_same kz) Tryz.underlying76 rfl (by kernel_rfl)) rfl ?_
           exact ⟨⟨d, _, rfl⟩, Below_setRow hbr (by omega) _⟩)
    · go_wp2_with ((refine wpList_store_row rfl 76 _ _ rfl _ _ rfl rfl _ _ (kz) (by kernel_rfl) rfl (by simp [Value.oneCell']) ?_))
      (try simp only [Exit.inBlock, Exit.then])
      refine bodyPost_ret (results2_cell Tryz.results113 _ _ _ _ _ _ _ rfl (Blk_setRow_same kz) Tryz.underlying76 rfl (by kernel_rfl)) rfl ?_
      exact ⟨⟨default, _, rfl⟩, Below_setRow hbr (by omega) _⟩
end Go.Proofs.YtjhpiclnpmdjnaaGreatDoor.Bm
