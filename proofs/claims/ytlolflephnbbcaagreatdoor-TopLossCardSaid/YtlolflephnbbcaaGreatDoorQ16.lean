/-
  Parts of the proof: Zl, B1, Ls1, Tkb, Amq.
-/
import Derived.Test.YtlolflephnbbcaaGreatDoorQ15
import Derived.Deep.MidRow
import Derived.Test.YtlolflephnbbcaaGreatDoorQ03
import Derived.Test.YtlolflephnbbcaaGreatDoorQ11
import Derived.Test.YtlolflephnbbcaaGreatDoorQ09
namespace Go.Proofs.YtlolflephnbbcaaGreatDoor.Ln
open Go Go.RowKit
open Go.Proofs.YtlolflephnbbcaaGreatDoor
set_option maxRecDepth 100000

def zTm : Tm := ⟨0, 0, 0, 0, 0, 0, 0, 0, 0, 0, .empty, .empty⟩
def zLo : Lo := ⟨0, 0, 0, 0, 0, 0, 0, 0, 0, 0, 0, zTm, [], []⟩
theorem RowIn.none {α : Type} {enc : α → List Value} {W : World} {a : Option Addr} : RowIn enc W a [] := fun h => absurd h (Nat.not_lt_zero _)
structure LoIn (W : World) (l : Lo) (da ca : Option Addr) : Prop where
 d : RowIn denc W da l.ds
 c : RowIn cenc W ca l.cs
theorem LoIn.later {W W' : World} {l : Lo} {da ca : Option Addr} (h : LoIn W l da ca) (hb : Below W.heap.size W W') : LoIn W' l da ca := ⟨h.d.later hb, h.c.later hb⟩
theorem results2_cell {P : Program} {fn : Func} {p u : Tmp} {ty : TypeId} (h : fn.results = #[.cell p ty, .tmp u]) (tmps : Array Value) (w : World) (g : Nat) (t : TypeId) (cs : Array Value) (fr : Nat × Nat) (d : TypeDesc)
  (hp : tmps.getD p undef = .pointer (some ⟨g, 0, none⟩)) (hg : w.heap[g]? = some (.cells cs t fr))
  (hu : P.underlying ty = some d) (hd : (match d with | .struct _ | .array _ _ => true | _ => false) = true) (hi : (P.info? ty).map (·.size) = some cs.size) :
  (results fn tmps).run P w = .ok (.tuple #[.agg cs, tmps.getD u undef]) w := by
 have hp' : tmps[p]?.getD undef = .pointer (some ⟨g, 0, none⟩) := by simpa using hp
 simp [results, h, hp', asAddr, run_loadVar_row w g t ty cs fr d hg hu hd hi]
theorem dues_setRow {W : World} {da : Option Addr} {ds : List Du} {g : Nat} {cs : Array Value} (h : DuesIn W da ds) (hne : ∀ ad, da = some ad → ad.block ≠ g) : DuesIn (W.setRow g cs) da ds :=
 dues_of_row h.1 (row_row h.row hne)
end Go.Proofs.YtlolflephnbbcaaGreatDoor.Ln
namespace Go.Proofs.YtlolflephnbbcaaGreatDoor.Bm
open Go Go.RowKit
open Go.Proofs.YtlolflephnbbcaaGreatDoor
open Go.Proofs.YtlolflephnbbcaaGreatDoor.Ln (flat flat_len flat_get flat_mem RowIn OwnR Idx bl2 results2_cell Blk_setRow_same Blk_setRow_ne Below_setRow)
set_option linter.unusedSimpArgs false
set_option linter.unusedVariables false
set_option maxRecDepth 100000

theorem find_none {α : Type} [Inhabited α] {p : α → Bool} : ∀ {l : List α}, (∀ j, j < l.length → p l[j]! = false) → l.find? p = none := by
 intro l h
 rw [List.find?_eq_none]
 intro x hx
 obtain ⟨j, hj, rfl⟩ := List.getElem_of_mem hx
 have := h j hj
 rw [getElem!_pos l j hj] at this
 simp [this]
theorem find_at {α : Type} [Inhabited α] {p : α → Bool} : ∀ {l : List α} {k : Nat}, k < l.length → p l[k]! = true → (∀ j, j < k → p l[j]! = false) → l.find? p = some l[k]!
 | [], k, h, _, _ => absurd h (Nat.not_lt_zero _)
 | x :: xs, 0, _, h1, _ => by
  rw [List.find?_cons_of_pos (by simpa using h1)]
  rfl
 | x :: xs, k + 1, h, h1, h2 => by
  have h0 := h2 0 (by omega)
  rw [List.find?_cons_of_neg (by simpa using h0), find_at (l := xs) (k := k) (by simpa using h) (by simpa using h1) (fun j hj => by simpa using h2 (j + 1) (by omega))]
  simp
def fst' {α : Type} [Inhabited α] (p : α → Bool) (l : List α) : α := (l.find? p).getD default
def fok {α : Type} (p : α → Bool) (l : List α) : Bool := (l.find? p).isSome
theorem fst_none {α : Type} [Inhabited α] {p : α → Bool} {l : List α} (h : ∀ j, j < l.length → p l[j]! = false) : fst' p l = default ∧ fok p l = false := by
 unfold fst' fok; rw [find_none h]; exact ⟨rfl, rfl⟩
theorem fst_at {α : Type} [Inhabited α] {p : α → Bool} {l : List α} {k : Nat} (hk : k < l.length) (h1 : p l[k]! = true) (h2 : ∀ j, j < k → p l[j]! = false) : fst' p l = l[k]! ∧ fok p l = true := by
 unfold fst' fok; rw [find_at hk h1 h2]; exact ⟨rfl, rfl⟩
theorem rowat {α : Type} [Inhabited α] {enc : α → List Value} {n : Nat} (hn : ∀ x, (enc x).length = n) {W : World} {a : Option Addr} {xs : List α} (h : RowIn enc W a xs) (h0 : 0 < xs.length) : ∃ b off, a = some ⟨b, off, none⟩ ∧ ∀ j, j < xs.length → W.rangeAt b (off + j * n) (enc xs[j]!) := by
 obtain ⟨b, off, ha, hc⟩ := h h0
 refine ⟨b, off, ha, fun j hj i u hu => ?_⟩
 have hik : i < n := by
  have := (List.getElem?_eq_some_iff.1 hu).1
  rwa [hn] at this
 rw [Nat.add_assoc]
 exact hc _ _ ((flat_get hn xs j i hj hik).trans hu)
theorem range_later {W W' : World} {b f : Nat} {cs : List Value} (hb : Below W.heap.size W W') (h : W.rangeAt b f cs) : W'.rangeAt b f cs := fun j v hv => cell_later hb (h j v hv)
def SR1 (w : World) (n : Nat) (Q : Nat → Prop) (g : Nat) (s : Value) (W : World) : Prop := ∃ k : Nat, k + g = n ∧ s = .int .i64 k ∧ Q k ∧ Below w.heap.size w W
def SR2 (w : World) (n : Nat) (Q : Nat → Prop) (cs : Array Value) (t : TypeId) (g : Nat) (s : Value) (W : World) : Prop := ∃ k : Nat, k + g = n ∧ s = .int .i64 k ∧ Q k ∧ Bk.Blk W w.heap.size cs t ∧ Below w.heap.size w W
set_option maxHeartbeats 4000000 in
theorem cfind_any (a : Option Addr) (cap : Nat) (l : List Gl) (id : Int) (w : World) (hl : l.length ≤ 100000) (h : RowIn glenc w a l) :
  Calls Tryz.prog 134 #[.slice a l.length cap, .int .i64 id] w fun e w' => e = .returned (.tuple #[(.agg #[.int .i64 ((fst' (fun x : Gl => x.id == id) l)).id, .int .i64 ((fst' (fun x : Gl => x.id == id) l)).pa, .int .i64 ((fst' (fun x : Gl => x.id == id) l)).ki, .string ((fst' (fun x : Gl => x.id == id) l)).nm]), .bool (fok (fun x : Gl => x.id == id) l)]) ∧ Below w.heap.size w w' := by
 have H := Lib.hid h
 have cw : Below w.heap.size w (w.alloc (.cells #[.int .i64 0, .int .i64 0, .int .i64 0, .string { data := #[] }] 110)) := Bk.be
 have kz : Bk.Blk (w.alloc (.cells #[.int .i64 0, .int .i64 0, .int .i64 0, .string { data := #[] }] 110)) w.heap.size _ 110 := Bk.Blk.nw10
 clear h
 go_enter Tryz.func134, Tryz.ntmps134
 go_upto_region 1 with fail
 have hg : w.heap.size < (w.alloc (.cells #[.int .i64 0, .int .i64 0, .int .i64 0, .string { data := #[] }] 110)).heap.size := kz.lt
 generalize (w.alloc (.cells _ 110)) = w1 at *
 go_wp2_with fail
 go_loopg [10] l.length (SR2 w l.length (fun k => ∀ j, j < k → (fun x : Gl => x.id == id) l[j]! = false) #[.int .i64 0, .int .i64 0, .int .i64 0, .string { data := #[] }] 110)
 case atStart => exact ⟨0, by omega, rfl, fun j hj => by omega, kz, cw⟩
 case round =>
  clear kz cw hg
  obtain ⟨k, hk, rfl, hall, kz, hbr⟩ := hrel
  have HA := Lib.hid hall
  have hg := kz.lt
  clear hall
  by_cases hlt : k < l.length
  ·obtain ⟨b, off, rfl, hc⟩ := rowat glenc_len H.out (by omega)
   have hm := range_later hbr (hc k hlt)
   clear hc
   obtain ⟨d, hd⟩ : ∃ d, d = l[k]! := ⟨_, rfl⟩
   rw [← hd] at hm
   have HD := Lib.hid hd
   clear hd
   cases hv : (fun x : Gl => x.id == id) d
   ·have HV := Lib.hid hv
    simp only at hv
    go_wp2_with (first | (refine wpList_load_mid rfl 110 _ rfl _ (off + k * 4) (by first | rfl | simp) ([.int .i64 (d).id, .int .i64 (d).pa, .int .i64 (d).ki, .string (d).nm]) _ (hm) Tryz.underlying110 rfl (by kernel_rfl) ?_))
    go_roundg (gk - 1)
    case measure => omega
    case rel => exact ⟨k + 1, by omega, by go_num, fun j hj => by
     by_cases e : j = k
     ·subst e; rw [← HD.out]; exact HV.out
     ·exact HA.out j (by omega), Bk.Blk.alloc kz, Below.alloc hbr hbr.size _⟩
   ·have HF := Lib.hid (fst_at (p := fun x : Gl => x.id == id) hlt (by rw [← HD.out]; exact hv) HA.out)
    simp only at hv
    go_wp2_with (first | (refine wpList_load_mid rfl 110 _ rfl _ (off + k * 4) (by first | rfl | simp) ([.int .i64 (d).id, .int .i64 (d).pa, .int .i64 (d).ki, .string (d).nm]) _ (hm) Tryz.underlying110 rfl (by kernel_rfl) ?_) | (refine wpList_store_row rfl 110 _ _ rfl _ _ rfl rfl _ _ (Bk.Blk.alloc kz) (by kernel_rfl) rfl (by simp [Value.oneCell']) ?_) | (refine wpList_load_row rfl 110 _ rfl _ rfl _ _ _ _ (Bk.Blk.nw10) Tryz.underlying110 rfl (by kernel_rfl) ?_))
    (try simp only [Exit.inBlock, Exit.then])
    refine bodyPost_ret (results2_cell Tryz.results134 _ _ _ _ _ _ _ rfl (Blk_setRow_same (Bk.Blk.alloc kz)) Tryz.underlying110 rfl (by kernel_rfl)) rfl ?_
    exact ⟨by rw [HF.out.1, HF.out.2, ← HD.out]; rfl, Below_setRow (Below.alloc hbr hbr.size _) (Nat.le_refl _) _⟩
  ·have HF := Lib.hid (fst_none (p := fun x : Gl => x.id == id) (l := l) (fun j hj => HA.out j (by omega)))
   go_wp2_with ((refine wpList_store_row rfl 110 _ _ rfl _ _ rfl rfl _ _ (kz) (by kernel_rfl) rfl (by simp [Value.oneCell']) ?_))
   (try simp only [Exit.inBlock, Exit.then])
   refine bodyPost_ret (results2_cell Tryz.results134 _ _ _ _ _ _ _ rfl (Blk_setRow_same kz) Tryz.underlying110 rfl (by kernel_rfl)) rfl ?_
   exact ⟨by rw [HF.out.1, HF.out.2]; rfl, Below_setRow hbr (Nat.le_refl _) _⟩
set_option maxHeartbeats 4000000 in
theorem mfind_any (a : Option Addr) (cap : Nat) (l : List Cu) (s : ByteArray) (w : World) (hl : l.length ≤ 100000) (h : RowIn cuenc w a l) :
  Calls Tryz.prog 137 #[.slice a l.length cap, .string s] w fun e w' => e = .returned (.tuple #[(.agg #[.string ((fst' (fun x : Cu => x.cd.toList == s.toList) l)).cd, .int .i64 ((fst' (fun x : Cu => x.cd.toList == s.toList) l)).dg]), .bool (fok (fun x : Cu => x.cd.toList == s.toList) l)]) ∧ Below w.heap.size w w' := by
 have H := Lib.hid h
 have cw : Below w.heap.size w (w.alloc (.cells #[.string { data := #[] }, .int .i64 0] 108)) := Bk.be
 have kz : Bk.Blk (w.alloc (.cells #[.string { data := #[] }, .int .i64 0] 108)) w.heap.size #[.string { data := #[] }, .int .i64 0] 108 := Bk.Blk.nw10
 clear h
 go_enter Tryz.func137, Tryz.ntmps137
 go_upto_region 1 with fail
 have hg : w.heap.size < (w.alloc (.cells #[.string { data := #[] }, .int .i64 0] 108)).heap.size := kz.lt
 generalize (w.alloc (.cells #[.string { data := #[] }, .int .i64 0] 108)) = w1 at *
 go_wp2_with fail
 go_loopg [10] l.length (SR2 w l.length (fun k => ∀ j, j < k → (fun x : Cu => x.cd.toList == s.toList) l[j]! = false) #[.string { data := #[] }, .int .i64 0] 108)
 case atStart => exact ⟨0, by omega, rfl, fun j hj => by omega, kz, cw⟩
 case round =>
  clear kz cw hg
  obtain ⟨k, hk, rfl, hall, kz, hbr⟩ := hrel
  have HA := Lib.hid hall
  have hg := kz.lt
  clear hall
  by_cases hlt : k < l.length
  ·obtain ⟨b, off, rfl, hc⟩ := rowat cuenc_len H.out (by omega)
   have hm := range_later hbr (hc k hlt)
   clear hc
   obtain ⟨d, hd⟩ : ∃ d, d = l[k]! := ⟨_, rfl⟩
   rw [← hd] at hm
   have HD := Lib.hid hd
   clear hd
   cases hv : (fun x : Cu => x.cd.toList == s.toList) d
   ·have HV := Lib.hid hv
    simp only at hv
    go_wp2_with (first | (refine wpList_load_mid rfl 108 _ rfl _ (off + k * 2) (by first | rfl | simp) ([.string (d).cd, .int .i64 (d).dg]) _ (hm) Tryz.underlying108 rfl (by kernel_rfl) ?_))
    go_roundg (gk - 1)
    case measure => omega
    case rel => exact ⟨k + 1, by omega, by go_num, fun j hj => by
     by_cases e : j = k
     ·subst e; rw [← HD.out]; exact HV.out
     ·exact HA.out j (by omega), Bk.Blk.alloc kz, Below.alloc hbr hbr.size _⟩
   ·have HF := Lib.hid (fst_at (p := fun x : Cu => x.cd.toList == s.toList) hlt (by rw [← HD.out]; exact hv) HA.out)
    simp only at hv
    go_wp2_with (first | (refine wpList_load_mid rfl 108 _ rfl _ (off + k * 2) (by first | rfl | simp) ([.string (d).cd, .int .i64 (d).dg]) _ (hm) Tryz.underlying108 rfl (by kernel_rfl) ?_) | (refine wpList_store_row rfl 108 _ _ rfl _ _ rfl rfl _ _ (Bk.Blk.alloc kz) (by kernel_rfl) rfl (by simp [Value.oneCell']) ?_) | (refine wpList_load_row rfl 108 _ rfl _ rfl _ _ _ _ (Bk.Blk.nw10) Tryz.underlying108 rfl (by kernel_rfl) ?_))
    (try simp only [Exit.inBlock, Exit.then])
    refine bodyPost_ret (results2_cell Tryz.results137 _ _ _ _ _ _ _ rfl (Blk_setRow_same (Bk.Blk.alloc kz)) Tryz.underlying108 rfl (by kernel_rfl)) rfl ?_
    exact ⟨by rw [HF.out.1, HF.out.2, ← HD.out]; rfl, Below_setRow (Below.alloc hbr hbr.size _) (Nat.le_refl _) _⟩
  ·have HF := Lib.hid (fst_none (p := fun x : Cu => x.cd.toList == s.toList) (l := l) (fun j hj => HA.out j (by omega)))
   go_wp2_with ((refine wpList_store_row rfl 108 _ _ rfl _ _ rfl rfl _ _ (kz) (by kernel_rfl) rfl (by simp [Value.oneCell']) ?_))
   (try simp only [Exit.inBlock, Exit.then])
   refine bodyPost_ret (results2_cell Tryz.results137 _ _ _ _ _ _ _ rfl (Blk_setRow_same kz) Tryz.underlying108 rfl (by kernel_rfl)) rfl ?_
   exact ⟨by rw [HF.out.1, HF.out.2]; rfl, Below_setRow hbr (Nat.le_refl _) _⟩
-- GEN ix
def PredG (g : Nat) (lb : Array Value) (p : Gl → Bool) (B : Nat) (w : World) : Prop := ∀ (d : Gl) (W : World), Below B w W → Calls Tryz.prog g (#[(.agg #[.int .i64 (d).id, .int .i64 (d).pa, .int .i64 (d).ki, .string (d).nm])] ++ lb) W fun e w' => e = .returned (.bool (p d)) ∧ Below W.heap.size W w'
set_option maxHeartbeats 4000000 in
theorem ixG_any (g : Nat) (lb : Array Value) (p : Gl → Bool) (a : Option Addr) (cap : Nat) (cs : List Gl) (w : World) (hn : cs.length ≤ 100000) (h : RowIn glenc w a cs) (eg : ∀ args w, (callFunc g args).run Tryz.prog w = .ok (.enter g args) w) (hp : PredG g lb p w.heap.size w) :
  Calls Tryz.prog 170 #[.slice a cs.length cap, .func (.func g) #[] lb] w fun e w' => ∃ r, e = .returned (.int .i64 r) ∧ Idx p cs r ∧ Below w.heap.size w w' := by
 have H := Lib.hid h
 have HP := Lib.hid hp
 clear h hp
 go_enter Tryz.func170, Tryz.ntmps170
 go_wp2_with fail
 go_loopg [8] cs.length (SR1 w cs.length (fun k => ∀ j, j < k → p cs[j]! = false))
 case atStart => exact ⟨0, by omega, rfl, fun j hj => by omega, Below.refl _ _⟩
 case round =>
  obtain ⟨k, hk, rfl, hall, hbr⟩ := hrel
  have HA := Lib.hid hall
  clear hall
  by_cases hlt : k < cs.length
  ·obtain ⟨b, off, rfl, hc⟩ := rowat glenc_len H.out (by omega)
   have hm := range_later hbr (hc k hlt)
   have hcall := HP.out cs[k]! wr hbr
   generalize hd : cs[k]! = d at *
   have HD := Lib.hid hd
   clear hc hd
   cases hv : p d
   ·rw [hv] at hcall
    have HV := Lib.hid hv
    clear hv
    go_wp2_with (refine wpList_load_mid rfl 110 _ rfl b (off + k * 4) (by first | rfl | simp) (glenc d) _ hm Tryz.underlying110 rfl (by kernel_rfl) ?_)
    clear hm
    refine hcall.mono ?_
    rintro e w1 ⟨rfl, hb⟩
    go_wp2_with fail
    go_roundg (gk - 1)
    case measure => omega
    case rel => exact ⟨k + 1, by omega, by go_num, fun j hj => by
     by_cases e : j = k
     ·subst e; rw [HD.out]; exact HV.out
     ·exact HA.out j (by omega), bl2 hb hbr⟩
   ·rw [hv] at hcall
    have HV := Lib.hid hv
    clear hv
    go_wp2_with (refine wpList_load_mid rfl 110 _ rfl b (off + k * 4) (by first | rfl | simp) (glenc d) _ hm Tryz.underlying110 rfl (by kernel_rfl) ?_)
    clear hm
    refine hcall.mono ?_
    rintro e w1 ⟨rfl, hb⟩
    go_wp2_with fail
    go_ret
    exact ⟨k, rfl, .inr ⟨k, hlt, rfl, by rw [HD.out]; exact HV.out, HA.out⟩, bl2 hb hbr⟩
  ·go_wp2_with fail
   go_ret
   exact ⟨-1, rfl, .inl ⟨rfl, fun j hj => HA.out j (by omega)⟩, hbr⟩
def PredA (g : Nat) (lb : Array Value) (p : Ac → Bool) (B : Nat) (w : World) : Prop := ∀ (d : Ac) (W : World), Below B w W → Calls Tryz.prog g (#[(.agg #[.int .i64 (d).id, .int .i64 (d).op, .int .i64 (d).cl, .int .i64 (d).ex, .string (d).ow, .string (d).pr, .string (d).nu])] ++ lb) W fun e w' => e = .returned (.bool (p d)) ∧ Below W.heap.size W w'
set_option maxHeartbeats 4000000 in
theorem ixA_any (g : Nat) (lb : Array Value) (p : Ac → Bool) (a : Option Addr) (cap : Nat) (cs : List Ac) (w : World) (hn : cs.length ≤ 100000) (h : RowIn acenc w a cs) (eg : ∀ args w, (callFunc g args).run Tryz.prog w = .ok (.enter g args) w) (hp : PredA g lb p w.heap.size w) :
  Calls Tryz.prog 175 #[.slice a cs.length cap, .func (.func g) #[] lb] w fun e w' => ∃ r, e = .returned (.int .i64 r) ∧ Idx p cs r ∧ Below w.heap.size w w' := by
 have H := Lib.hid h
 have HP := Lib.hid hp
 clear h hp
 go_enter Tryz.func175, Tryz.ntmps175
 go_wp2_with fail
 go_loopg [8] cs.length (SR1 w cs.length (fun k => ∀ j, j < k → p cs[j]! = false))
 case atStart => exact ⟨0, by omega, rfl, fun j hj => by omega, Below.refl _ _⟩
 case round =>
  obtain ⟨k, hk, rfl, hall, hbr⟩ := hrel
  have HA := Lib.hid hall
  clear hall
  by_cases hlt : k < cs.length
  ·obtain ⟨b, off, rfl, hc⟩ := rowat acenc_len H.out (by omega)
   have hm := range_later hbr (hc k hlt)
   have hcall := HP.out cs[k]! wr hbr
   generalize hd : cs[k]! = d at *
   have HD := Lib.hid hd
   clear hc hd
   cases hv : p d
   ·rw [hv] at hcall
    have HV := Lib.hid hv
    clear hv
    go_wp2_with (refine wpList_load_mid rfl 122 _ rfl b (off + k * 7) (by first | rfl | simp) (acenc d) _ hm Tryz.underlying122 rfl (by kernel_rfl) ?_)
    clear hm
    refine hcall.mono ?_
    rintro e w1 ⟨rfl, hb⟩
    go_wp2_with fail
    go_roundg (gk - 1)
    case measure => omega
    case rel => exact ⟨k + 1, by omega, by go_num, fun j hj => by
     by_cases e : j = k
     ·subst e; rw [HD.out]; exact HV.out
     ·exact HA.out j (by omega), bl2 hb hbr⟩
   ·rw [hv] at hcall
    have HV := Lib.hid hv
    clear hv
    go_wp2_with (refine wpList_load_mid rfl 122 _ rfl b (off + k * 7) (by first | rfl | simp) (acenc d) _ hm Tryz.underlying122 rfl (by kernel_rfl) ?_)
    clear hm
    refine hcall.mono ?_
    rintro e w1 ⟨rfl, hb⟩
    go_wp2_with fail
    go_ret
    exact ⟨k, rfl, .inr ⟨k, hlt, rfl, by rw [HD.out]; exact HV.out, HA.out⟩, bl2 hb hbr⟩
  ·go_wp2_with fail
   go_ret
   exact ⟨-1, rfl, .inl ⟨rfl, fun j hj => HA.out j (by omega)⟩, hbr⟩
def PredE (g : Nat) (lb : Array Value) (p : En → Bool) (B : Nat) (w : World) : Prop := ∀ (d : En) (W : World), Below B w W → Calls Tryz.prog g (#[(.agg #[.int .i64 (d).id, .int .i64 (d).bo, .int .i64 (d).va, .int .i64 (d).ki, .int .i64 (d).au, .int .i64 (d).pe, .string (d).ke, .string (d).tx, .slice (d).la (d).lg.length (d).lk, .int .u64 (d).ch])] ++ lb) W fun e w' => e = .returned (.bool (p d)) ∧ Below W.heap.size W w'
set_option maxHeartbeats 4000000 in
theorem ixE_any (g : Nat) (lb : Array Value) (p : En → Bool) (a : Option Addr) (cap : Nat) (cs : List En) (w : World) (hn : cs.length ≤ 100000) (h : RowIn enenc w a cs) (eg : ∀ args w, (callFunc g args).run Tryz.prog w = .ok (.enter g args) w) (hp : PredE g lb p w.heap.size w) :
  Calls Tryz.prog 90 #[.slice a cs.length cap, .func (.func g) #[] lb] w fun e w' => ∃ r, e = .returned (.int .i64 r) ∧ Idx p cs r ∧ Below w.heap.size w w' := by
 have H := Lib.hid h
 have HP := Lib.hid hp
 clear h hp
 go_enter Tryz.func90, Tryz.ntmps90
 go_wp2_with fail
 go_loopg [8] cs.length (SR1 w cs.length (fun k => ∀ j, j < k → p cs[j]! = false))
 case atStart => exact ⟨0, by omega, rfl, fun j hj => by omega, Below.refl _ _⟩
 case round =>
  obtain ⟨k, hk, rfl, hall, hbr⟩ := hrel
  have HA := Lib.hid hall
  clear hall
  by_cases hlt : k < cs.length
  ·obtain ⟨b, off, rfl, hc⟩ := rowat enenc_len H.out (by omega)
   have hm := range_later hbr (hc k hlt)
   have hcall := HP.out cs[k]! wr hbr
   generalize hd : cs[k]! = d at *
   have HD := Lib.hid hd
   clear hc hd
   cases hv : p d
   ·rw [hv] at hcall
    have HV := Lib.hid hv
    clear hv
    go_wp2_with (refine wpList_load_mid rfl 80 _ rfl b (off + k * 10) (by first | rfl | simp) (enenc d) _ hm Tryz.underlying80 rfl (by kernel_rfl) ?_)
    clear hm
    refine hcall.mono ?_
    rintro e w1 ⟨rfl, hb⟩
    go_wp2_with fail
    go_roundg (gk - 1)
    case measure => omega
    case rel => exact ⟨k + 1, by omega, by go_num, fun j hj => by
     by_cases e : j = k
     ·subst e; rw [HD.out]; exact HV.out
     ·exact HA.out j (by omega), bl2 hb hbr⟩
   ·rw [hv] at hcall
    have HV := Lib.hid hv
    clear hv
    go_wp2_with (refine wpList_load_mid rfl 80 _ rfl b (off + k * 10) (by first | rfl | simp) (enenc d) _ hm Tryz.underlying80 rfl (by kernel_rfl) ?_)
    clear hm
    refine hcall.mono ?_
    rintro e w1 ⟨rfl, hb⟩
    go_wp2_with fail
    go_ret
    exact ⟨k, rfl, .inr ⟨k, hlt, rfl, by rw [HD.out]; exact HV.out, HA.out⟩, bl2 hb hbr⟩
  ·go_wp2_with fail
   go_ret
   exact ⟨-1, rfl, .inl ⟨rfl, fun j hj => HA.out j (by omega)⟩, hbr⟩
-- END ix
theorem aix1_any (id : Int) (b B : Nat) (w : World) (hb : b < B) (hc : w.cell? ⟨b, 0, none⟩ = some (.int .i64 id)) : PredA 176 #[.pointer (some ⟨b, 0, none⟩)] (fun d => d.id == id) B w := by
 intro d W hW
 have hc' : W.cell? ⟨b, 0, none⟩ = some (.int .i64 id) := (hW.cell (p := ⟨b, 0, none⟩) hb).trans hc
 have hlt := World.block_lt_of_cell? _ _ hc'
 have hne : b ≠ W.heap.size := by
  have : b < W.heap.size := hlt
  omega
 show Calls Tryz.prog 176 #[(.agg #[.int .i64 (d).id, .int .i64 (d).op, .int .i64 (d).cl, .int .i64 (d).ex, .string (d).ow, .string (d).pr, .string (d).nu]), .pointer (some ⟨b, 0, none⟩)] W _
 go_enter Tryz.func176, Tryz.ntmps176
 go_wp2_with fail
 go_ret
 exact ⟨by first | rfl | simp, (Below.refl _ _).alloc (Nat.le_refl _) _⟩
theorem jfi1_any (s : ByteArray) (b B : Nat) (w : World) (hb : b < B) (hc : w.cell? ⟨b, 0, none⟩ = some (.string s)) : PredE 91 #[.pointer (some ⟨b, 0, none⟩)] (fun d => d.ke.toList == s.toList) B w := by
 intro d W hW
 have hc' : W.cell? ⟨b, 0, none⟩ = some (.string s) := (hW.cell (p := ⟨b, 0, none⟩) hb).trans hc
 have hlt := World.block_lt_of_cell? _ _ hc'
 have hne : b ≠ W.heap.size := by
  have : b < W.heap.size := hlt
  omega
 show Calls Tryz.prog 91 #[(.agg #[.int .i64 (d).id, .int .i64 (d).bo, .int .i64 (d).va, .int .i64 (d).ki, .int .i64 (d).au, .int .i64 (d).pe, .string (d).ke, .string (d).tx, .slice (d).la (d).lg.length (d).lk, .int .u64 (d).ch]), .pointer (some ⟨b, 0, none⟩)] W _
 go_enter Tryz.func91, Tryz.ntmps91
 go_wp2_with fail
 go_ret
 exact ⟨by first | rfl | simp, (Below.refl _ _).alloc (Nat.le_refl _) _⟩
theorem led1_any (id : Int) (b B : Nat) (w : World) (hb : b < B) (hc : w.cell? ⟨b, 0, none⟩ = some (.int .i64 id)) : PredG 136 #[.pointer (some ⟨b, 0, none⟩)] (fun d => d.pa == id) B w := by
 intro d W hW
 have hc' : W.cell? ⟨b, 0, none⟩ = some (.int .i64 id) := (hW.cell (p := ⟨b, 0, none⟩) hb).trans hc
 have hlt := World.block_lt_of_cell? _ _ hc'
 have hne : b ≠ W.heap.size := by
  have : b < W.heap.size := hlt
  omega
 show Calls Tryz.prog 136 #[(.agg #[.int .i64 (d).id, .int .i64 (d).pa, .int .i64 (d).ki, .string (d).nm]), .pointer (some ⟨b, 0, none⟩)] W _
 go_enter Tryz.func136, Tryz.ntmps136
 go_wp2_with fail
 go_ret
 exact ⟨by first | rfl | simp, (Below.refl _ _).alloc (Nat.le_refl _) _⟩
set_option maxHeartbeats 4000000 in
theorem aidx_any (B : Bo) (id : Int) (w : World) (hn : B.as.length ≤ 100000) (h : RowIn acenc w B.aa B.as) :
  Calls Tryz.prog 142 #[(.agg #[.slice (B).ua (B).us.length (B).uk, .slice (B).ka (B).kn (B).kk, .slice (B).ga (B).gs.length (B).gk, .int .i64 ((B).pl).p0, .int .i64 ((B).pl).p1, .int .i64 ((B).pl).p2, .int .i64 ((B).pl).p3, .int .i64 ((B).pl).p4, .int .i64 ((B).pl).p5, .int .i64 ((B).pl).p6, .int .i64 ((B).pl).p7, .int .i64 ((B).pl).p8, .int .i64 ((B).pl).p9, .int .i64 ((B).pl).p10, .int .i64 ((B).pl).p11, .int .i64 ((B).pl).p12, .int .i64 ((B).pl).p13, .slice (B).pa (B).ps.length (B).pk, .slice (B).aa (B).as.length (B).ak, .slice (B).ja (B).js.length (B).jk, .slice (B).ha (B).hn (B).hk, .slice (B).ba (B).bn (B).bk]), .int .i64 id] w fun e w' => ∃ r, e = .returned (.int .i64 r) ∧ Idx (fun d : Ac => d.id == id) B.as r ∧ Below w.heap.size w w' := by
 have cw : Below w.heap.size w ((w.alloc (.cells #[.slice (B).ua (B).us.length (B).uk, .slice (B).ka (B).kn (B).kk, .slice (B).ga (B).gs.length (B).gk, .int .i64 ((B).pl).p0, .int .i64 ((B).pl).p1, .int .i64 ((B).pl).p2, .int .i64 ((B).pl).p3, .int .i64 ((B).pl).p4, .int .i64 ((B).pl).p5, .int .i64 ((B).pl).p6, .int .i64 ((B).pl).p7, .int .i64 ((B).pl).p8, .int .i64 ((B).pl).p9, .int .i64 ((B).pl).p10, .int .i64 ((B).pl).p11, .int .i64 ((B).pl).p12, .int .i64 ((B).pl).p13, .slice (B).pa (B).ps.length (B).pk, .slice (B).aa (B).as.length (B).ak, .slice (B).ja (B).js.length (B).jk, .slice (B).ha (B).hn (B).hk, .slice (B).ba (B).bn (B).bk] 71)).alloc (.cells #[.int .i64 id] 3)) := Bk.be
 have kb : Bk.Blk ((w.alloc (.cells #[.slice (B).ua (B).us.length (B).uk, .slice (B).ka (B).kn (B).kk, .slice (B).ga (B).gs.length (B).gk, .int .i64 ((B).pl).p0, .int .i64 ((B).pl).p1, .int .i64 ((B).pl).p2, .int .i64 ((B).pl).p3, .int .i64 ((B).pl).p4, .int .i64 ((B).pl).p5, .int .i64 ((B).pl).p6, .int .i64 ((B).pl).p7, .int .i64 ((B).pl).p8, .int .i64 ((B).pl).p9, .int .i64 ((B).pl).p10, .int .i64 ((B).pl).p11, .int .i64 ((B).pl).p12, .int .i64 ((B).pl).p13, .slice (B).pa (B).ps.length (B).pk, .slice (B).aa (B).as.length (B).ak, .slice (B).ja (B).js.length (B).jk, .slice (B).ha (B).hn (B).hk, .slice (B).ba (B).bn (B).bk] 71)).alloc (.cells #[.int .i64 id] 3)) w.heap.size _ 71 := Bk.Blk.nw20
 have k0 : Bk.Blk ((w.alloc (.cells #[.slice (B).ua (B).us.length (B).uk, .slice (B).ka (B).kn (B).kk, .slice (B).ga (B).gs.length (B).gk, .int .i64 ((B).pl).p0, .int .i64 ((B).pl).p1, .int .i64 ((B).pl).p2, .int .i64 ((B).pl).p3, .int .i64 ((B).pl).p4, .int .i64 ((B).pl).p5, .int .i64 ((B).pl).p6, .int .i64 ((B).pl).p7, .int .i64 ((B).pl).p8, .int .i64 ((B).pl).p9, .int .i64 ((B).pl).p10, .int .i64 ((B).pl).p11, .int .i64 ((B).pl).p12, .int .i64 ((B).pl).p13, .slice (B).pa (B).ps.length (B).pk, .slice (B).aa (B).as.length (B).ak, .slice (B).ja (B).js.length (B).jk, .slice (B).ha (B).hn (B).hk, .slice (B).ba (B).bn (B).bk] 71)).alloc (.cells #[.int .i64 id] 3)) (w.heap.size + 1) #[.int .i64 id] 3 := Bk.Blk.nw21
 have hr := h.later cw
 clear h
 go_enter Tryz.func142, Tryz.ntmps142
 go_upto_region 1 with fail
 generalize ((w.alloc (.cells _ 71)).alloc (.cells #[.int .i64 id] 3)) = w1 at *
 have l18 := kb.c18
 go_wp2_with fail
 refine (ixA_any 176 #[.pointer (some ⟨w.heap.size + 1, 0, none⟩)] (fun d => d.id == id) B.aa B.ak B.as w1 hn hr (enters_of Tryz.func176 (by kernel_rfl) rfl) (aix1_any id _ _ _ k0.lt k0.c0)).mono ?_
 rintro e w2 ⟨r, rfl, hr, hb⟩
 go_wp2_with fail
 go_ret
 exact ⟨r, rfl, hr, bl2 hb cw⟩
end Go.Proofs.YtlolflephnbbcaaGreatDoor.Bm
namespace Go.Proofs.YtlolflephnbbcaaGreatDoor.Ln
open Go.RowKit
open Go.Proofs.YtlolflephnbbcaaGreatDoor

theorem RowIn.mid {α : Type} [Inhabited α] {enc : α → List Value} {k : Nat} (hk : ∀ x, (enc x).length = k) {W : World} {a : Option Addr} {xs : List α} (h : RowIn enc W a xs) (h0 : 0 < xs.length) :
  ∃ b off, a = some ⟨b, off, Option.none⟩ ∧ ∀ j, j < xs.length → W.rangeAt b (off + j * k) (enc xs[j]!) := by
 obtain ⟨b, off, ha, hc⟩ := h h0
 refine ⟨b, off, ha, fun j hj i u hu => ?_⟩
 have hik : i < k := by
  have := (List.getElem?_eq_some_iff.1 hu).1
  rwa [hk] at this
 rw [Nat.add_assoc]
 exact hc _ _ ((flat_get hk xs j i hj hik).trans hu)
def samechR (w : World) (n : Nat) (g : Nat) (s5 : Value) (W : World) : Prop := ∃ k : Nat, k + g = n ∧ s5 = .int .i64 k ∧ Below w.heap.size w W
end Go.Proofs.YtlolflephnbbcaaGreatDoor.Ln
namespace Go.Proofs.YtlolflephnbbcaaGreatDoor.Ln
open Go Go.RowKit
open Go.Proofs.YtlolflephnbbcaaGreatDoor
set_option maxRecDepth 100000

end Go.Proofs.YtlolflephnbbcaaGreatDoor.Ln

namespace Go.Proofs.YtlolflephnbbcaaGreatDoor.Ln
open Go Go.RowKit
open Go.Proofs.YtlolflephnbbcaaGreatDoor

theorem z0 {α : Type} {a : α} {l : List α} {h : 0 < (a :: l).length} : (a :: l)[0] = a := List.getElem_cons_zero ..
theorem z1 {α : Type} {a : α} {l : List α} {i : Nat} {h : i + 1 < (a :: l).length} : (a :: l)[i + 1] = l[i]'(Nat.lt_of_succ_lt_succ h) := List.getElem_cons_succ ..
theorem z2 (a : Act) (d : Tmp) (v : Value) : a.put (some d) v = { a with tmps := a.tmps.setIfInBounds d v } := rfl
theorem z3 {α : Type} (l : List α) (i : Nat) (a : α) : l.toArray.setIfInBounds i a = (l.set i a).toArray := List.setIfInBounds_toArray ..
theorem z4 {α : Type} (a b : α) (l : List α) : (a :: l).set 0 b = b :: l := List.set_cons_zero
theorem z5 {α : Type} (a b : α) (l : List α) (i : Nat) : (a :: l).set (i + 1) b = a :: l.set i b := List.set_cons_succ
section
variable {P : Program} {l : List Oper} {Q : Exit → Act → World → Prop} {S : World → Prop} {md : Region.Mode} {fuel : Nat} {listed : Array Bool} {a : Act} {w : World}
theorem tk (i : Nat) (hi : i < l.length) (v : Value) (hS : S w) (hs : Region.noSelect l.toArray = true) (hf : Region.free md l.toArray listed i = true) (hr : (Region.ready md l.toArray listed).contains i = true)
  (hw : Region.wanted l[i] (yielded l.toArray a.tmps) = true) (hQ : ∀ c a w, Q (.panic c) (a.put l[i].dst v) w → Q (.panic c) a w)
  (hy : ∀ W, S W → (execOp a.eval l[i]).run P W = .ok (.value v) W) (h : wpAnyH P md l.toArray Q S fuel (listed.setIfInBounds i true) (a.put l[i].dst v) w) : wpAnyH P md l.toArray Q S (fuel + 1) listed a w :=
 take_at i hi hs hf hr hQ hS (.inl ⟨hw, hy⟩) h
theorem ts (i : Nat) (hi : i < l.length) (hS : S w) (hs : Region.noSelect l.toArray = true) (hf : Region.free md l.toArray listed i = true) (hr : (Region.ready md l.toArray listed).contains i = true)
  (hw : Region.wanted l[i] (yielded l.toArray a.tmps) = false) (hQ : ∀ c a w, Q (.panic c) (a.put l[i].dst undef) w → Q (.panic c) a w)
  (h : wpAnyH P md l.toArray Q S fuel (listed.setIfInBounds i true) (a.put l[i].dst undef) w) : wpAnyH P md l.toArray Q S (fuel + 1) listed a w :=
 take_at i hi hs hf hr hQ hS (.inr ⟨hw, rfl⟩) h
end
end Go.Proofs.YtlolflephnbbcaaGreatDoor.Ln
namespace Go.Proofs.YtlolflephnbbcaaGreatDoor.Ln
open Go.RowKit
open Go.Proofs.YtlolflephnbbcaaGreatDoor

def allO (l : Lo) (on : Int) : Int := pos l.fee + pos l.pen + pos (oI l on) + pos (oP l on)
end Go.Proofs.YtlolflephnbbcaaGreatDoor.Ln
