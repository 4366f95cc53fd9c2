/-
  Orders in memory; slices.Clone and IndexFunc at orders.
-/
import Derived.Test.YtdlmoijeflchgaaSom
import Derived.Test.YtdlmoijeflchgaaKcb
import Derived.Test.YtdlmoijeflchgaaLc
import Derived.Deep.MidRow
namespace Go.Proofs.Ytdlmoijeflchgaa.So
open Go Go.RowKit
open Go.Proofs.Ytdlmoijeflchgaa
open Go.Proofs.Ytdlmoijeflchgaa.Ln (flat flat_len flat_get flat_mem RowIn OwnR Idx bl2)
set_option linter.unusedSimpArgs false
set_option linter.unusedVariables false
set_option maxRecDepth 100000

/-- An order in memory. -/
def oenc (o : Od) : List Value := [.int .i64 (o).id, .int .i64 (o).fr, .int .i64 (o).too, .int .i64 (o).am, .int .i64 (o).day, .int .i64 (o).ev, .int .i64 (o).an, .int .i64 (o).un, .int .i64 (o).tr, .string (o).tx]
theorem oenc_len (o : Od) : (oenc o).length = 10 := rfl
theorem oenc_one (o : Od) : ∀ u ∈ oenc o, u.oneCell' = true := by
  intro u hu
  simp only [oenc, List.mem_cons, List.not_mem_nil, or_false] at hu
  rcases hu with rfl | rfl | rfl | rfl | rfl | rfl | rfl | rfl | rfl | rfl <;> rfl
theorem ord_info : (Try.prog.info? 23).map (fun i => (i.zero, i.size, i.bytes)) = some (some (.agg #[.int .i64 0, .int .i64 0, .int .i64 0, .int .i64 0, .int .i64 0, .int .i64 0, .int .i64 0, .int .i64 0, .int .i64 0, .string .empty]), 10, 88) := by kernel_rfl
theorem rangeAt_later {W W' : World} {b f : Nat} {cs : List Value} (hb : Below W.heap.size W W') (h : W.rangeAt b f cs) : W'.rangeAt b f cs := fun j v hv => cell_later hb (h j v hv)
/-- The cells of an order that lies in a row. -/
theorem row_at {W : World} {a : Option Addr} {xs : List Od} (h : RowIn oenc W a xs) (h0 : 0 < xs.length) : ∃ b off, a = some ⟨b, off, none⟩ ∧ ∀ j, j < xs.length → W.rangeAt b (off + j * 10) (oenc xs[j]!) := by
  obtain ⟨b, off, ha, hc⟩ := h h0
  refine ⟨b, off, ha, fun j hj i u hu => ?_⟩
  have hik : i < 10 := by
    have := (List.getElem?_eq_some_iff.1 hu).1
    rwa [oenc_len] at this
  rw [Nat.add_assoc]
  exact hc _ _ ((flat_get oenc_len xs j i hj hik).trans hu)
set_option maxHeartbeats 2000000 in
/-- slices.Clone at orders. -/
theorem cloneo_any (a : Option Addr) (cap : Nat) (l : List Od) (w : World) (h : RowIn oenc w a l) (hl : l.length ≤ 100000) :
    Calls Try.prog 32 #[.slice a l.length cap] w fun e w' => Below w.heap.size w w' ∧
      ((a = none ∧ l = [] ∧ e = .returned (.slice none 0 0)) ∨ ∃ g c, e = .returned (.slice (some ⟨g, 0, none⟩) l.length c) ∧ OwnR oenc 10 23 w' w.heap.size g c l) := by
  have HR := Lib.hid h
  cases a with
  | none =>
    have h0 : l = [] := by
      rcases Nat.eq_zero_or_pos l.length with h0 | h0
      · exact List.length_eq_zero_iff.1 h0
      · obtain ⟨b, off, ha, _⟩ := h h0; cases ha
    subst h0
    clear h hl
    have q24 : ∀ (w : World) (n c n' c' : Nat), (binOp .eql 34 (.slice none n c) (.slice none n' c')).run Try.prog w = .ok (.bool true) w := fun w n c n' c' => Lib.run_eql_slice_nil w _ _ none n c n' c' Try.underlying34
    go_enter Try.func32, Try.ntmps32
    go_wp2_with fail
    go_ret
    exact ⟨Below.refl _ _, .inl (by simp)⟩
  | some ad =>
    obtain ⟨i, hi, hzz⟩ := Option.map_eq_some_iff.1 ord_info
    simp only [Prod.mk.injEq] at hzz
    obtain ⟨hz, hsz, hby⟩ := hzz
    have HI := Lib.hid (And.intro hi (And.intro hz (And.intro hsz hby)))
    clear h hi hz hsz hby
    have q24 : ∀ (w : World) (n c n' c' : Nat), (binOp .eql 34 (.slice (some ad) n c) (.slice none n' c')).run Try.prog w = .ok (.bool false) w := fun w n c n' c' => Lib.run_eql_slice_nil w _ _ (some ad) n c n' c' Try.underlying34
    go_enter Try.func32, Try.ntmps32
    go_wp2_with (at_builtin; refine wpList_append_own _ rfl _ _ 34 rfl w.heap.size 23 i (.agg #[.int .i64 0, .int .i64 0, .int .i64 0, .int .i64 0, .int .i64 0, .int .i64 0, .int .i64 0, .int .i64 0, .int .i64 0, .string .empty]) 10 88 Try.underlying34 HI.out.1 HI.out.2.1 HI.out.2.2.1 HI.out.2.2.2 rfl (by decide) _ _ _ rfl (World.ownsRow_made w #[] 0 (Nat.le_refl _) (Nat.zero_le _) (by simp)) ad l.length cap (flat oenc l) rfl ?qc1 ?qc2 ?qc3 ?qc4 ?qc5 ?qc6 ?_)
    case qc1 => exact flat_len oenc_len l
    case qc2 =>
      intro j u hj
      have h0 : 0 < l.length := by
        rcases Nat.eq_zero_or_pos l.length with h0 | h0
        · rw [List.length_eq_zero_iff.1 h0] at hj; simp [flat] at hj
        · exact h0
      obtain ⟨b, off, ha, hc⟩ := HR.out h0
      obtain rfl := Option.some.inj ha
      rw [show (⟨b, off, none⟩ : Addr).add j = ⟨b, off + j, none⟩ from Go.WideShapes.add_plain ..]
      exact Lib.cell?_alloc_some _ (hc j u hj)
    case qc3 => exact flat_mem oenc_one l
    case qc4 => rw [Nat.zero_add]; unfold maxLen; omega
    case qc5 => rw [Nat.zero_add]; omega
    case qc6 => simp
    intro v' w1 hown hgrow hnl
    have hnn : v' ≠ .slice none 0 0 := hnl
    obtain ⟨g, c, rfl, ho⟩ := OwnR.of hown hnn
    go_wp2_with fail
    go_ret
    exact ⟨((Below.refl _ w).alloc (Nat.le_refl _) _).grown hgrow (by simp) (by intro k hk; simp [Value.ownBlock] at hk; omega), .inr ⟨g, c, rfl, ho⟩⟩
/-- A predicate on orders that is called answers p, in every world that is as w was below B. -/
def PredO (g : Nat) (lb : Array Value) (p : Od → Bool) (B : Nat) (w : World) : Prop := ∀ (d : Od) (W : World), Below B w W → Calls Try.prog g (#[(.agg #[.int .i64 (d).id, .int .i64 (d).fr, .int .i64 (d).too, .int .i64 (d).am, .int .i64 (d).day, .int .i64 (d).ev, .int .i64 (d).an, .int .i64 (d).un, .int .i64 (d).tr, .string (d).tx])] ++ lb) W fun e w' => e = .returned (.bool (p d)) ∧ Below W.heap.size W w'
def XRO (w : World) (p : Od → Bool) (cs : List Od) (g : Nat) (s8 : Value) (W : World) : Prop := ∃ k : Nat, k + g = cs.length ∧ s8 = .int .i64 k ∧ (∀ j, j < k → p cs[j]! = false) ∧ Below w.heap.size w W
set_option maxHeartbeats 4000000 in
theorem ixo_any (g : Nat) (lb : Array Value) (p : Od → Bool) (a : Option Addr) (cap : Nat) (cs : List Od) (w : World) (hn : cs.length ≤ 100000) (h : RowIn oenc w a cs) (eg : ∀ args w, (callFunc g args).run Try.prog w = .ok (.enter g args) w) (hp : PredO g lb p w.heap.size w) :
    Calls Try.prog 45 #[.slice a cs.length cap, .func (.func g) #[] lb] w fun e w' => ∃ r, e = .returned (.int .i64 r) ∧ Idx p cs r ∧ Below w.heap.size w w' := by
  have H := Lib.hid h
  have HP := Lib.hid hp
  clear h hp
  go_enter Try.func45, Try.ntmps45
  go_wp2_with fail
  go_loopg [8] cs.length (XRO w p cs)
  case atStart => exact ⟨0, by omega, rfl, fun j hj => by omega, Below.refl _ _⟩
  case round =>
    obtain ⟨k, hk, rfl, hall, hbr⟩ := hrel
    have HA := Lib.hid hall
    clear hall
    by_cases hlt : k < cs.length
    · obtain ⟨b, off, rfl, hc⟩ := row_at H.out (by omega)
      have hm := rangeAt_later hbr (hc k hlt)
      have hcall := HP.out cs[k]! wr hbr
      generalize hd : cs[k]! = d at *
      have HD := Lib.hid hd
      clear hc hd
      cases hv : p d
      · rw [hv] at hcall
        have HV := Lib.hid hv
        clear hv
        go_wp2_with (refine wpList_load_mid rfl 23 _ rfl b (off + k * 10) (by first | rfl | simp) (oenc d) _ hm Try.underlying23 rfl (by kernel_rfl) ?_)
        clear hm
        refine hcall.mono ?_
        rintro e w1 ⟨rfl, hb⟩
        go_wp2_with fail
        go_roundg (gk - 1)
        case measure => omega
        case rel => exact ⟨k + 1, by omega, by go_num, fun j hj => by
          by_cases e : j = k
          · subst e; rw [HD.out]; exact HV.out
          · exact HA.out j (by omega), bl2 hb hbr⟩
      · rw [hv] at hcall
        have HV := Lib.hid hv
        clear hv
        go_wp2_with (refine wpList_load_mid rfl 23 _ rfl b (off + k * 10) (by first | rfl | simp) (oenc d) _ hm Try.underlying23 rfl (by kernel_rfl) ?_)
        clear hm
        refine hcall.mono ?_
        rintro e w1 ⟨rfl, hb⟩
        go_wp2_with fail
        go_ret
        exact ⟨k, rfl, .inr ⟨k, hlt, rfl, by rw [HD.out]; exact HV.out, HA.out⟩, bl2 hb hbr⟩
    · go_wp2_with fail
      go_ret
      exact ⟨-1, rfl, .inl ⟨rfl, fun j hj => HA.out j (by omega)⟩, hbr⟩
/-- The closure of index. -/
theorem idx1_any (id : Int) (b B : Nat) (w : World) (hb : b < B) (hc : w.cell? ⟨b, 0, none⟩ = some (.int .i64 id)) : PredO 46 #[.pointer (some ⟨b, 0, none⟩)] (fun d => d.id == id) B w := by
  intro d W hW
  have hc' : W.cell? ⟨b, 0, none⟩ = some (.int .i64 id) := (hW.cell (p := ⟨b, 0, none⟩) hb).trans hc
  have hlt := World.block_lt_of_cell? _ _ hc'
  have hne : b ≠ W.heap.size := by
    have : b < W.heap.size := hlt
    omega
  show Calls Try.prog 46 #[(.agg #[.int .i64 (d).id, .int .i64 (d).fr, .int .i64 (d).too, .int .i64 (d).am, .int .i64 (d).day, .int .i64 (d).ev, .int .i64 (d).an, .int .i64 (d).un, .int .i64 (d).tr, .string (d).tx]), .pointer (some ⟨b, 0, none⟩)] W _
  go_enter Try.func46, Try.ntmps46
  go_wp2_with fail
  go_ret
  exact ⟨by first | rfl | simp, (Below.refl _ _).alloc (Nat.le_refl _) _⟩
theorem ix_idx {l : List Od} {id r : Int} (h : Idx (fun d : Od => d.id == id) l r) : (r = -1 ∧ ix l id = l.length) ∨ (r = ix l id ∧ ix l id < l.length) := by
  rcases h with ⟨hr, hall⟩ | ⟨k, hk, hr, hk1, hb⟩
  · exact .inl ⟨hr, ix_none fun j hj => by have := hall j hj; simpa using this⟩
  · have := ix_eq hk (by simpa using hk1) (fun j hj => by have := hb j hj; simpa using this)
    exact .inr ⟨by rw [this]; exact hr, by rw [this]; exact hk⟩
set_option maxHeartbeats 4000000 in
theorem index_any (a : Option Addr) (cap : Nat) (l : List Od) (id : Int) (w : World) (hn : l.length ≤ 100000) (h : RowIn oenc w a l) :
    Calls Try.prog 33 #[.slice a l.length cap, .int .i64 id] w fun e w' => ∃ r, e = .returned (.int .i64 r) ∧ ((r = -1 ∧ ix l id = l.length) ∨ (r = ix l id ∧ ix l id < l.length)) ∧ Below w.heap.size w w' := by
  have cw : Below w.heap.size w (w.alloc (.cells #[.int .i64 id] 3)) := (Below.refl _ _).alloc (Nat.le_refl _) _
  have k0 := Bk.Blk.nw10 (W := w) (cs := #[.int .i64 id]) (t := 3)
  have HI := Lib.hid (ixo_any 46 #[.pointer (some ⟨w.heap.size, 0, none⟩)] (fun d => d.id == id) a cap l (w.alloc (.cells #[.int .i64 id] 3)) hn (h.later cw) (enters_of Try.func46 (by kernel_rfl) rfl) (idx1_any id w.heap.size _ _ k0.lt k0.c0))
  clear h k0
  go_enter Try.func33, Try.ntmps33
  go_wp2_with fail
  refine HI.out.mono ?_
  rintro e w1 ⟨r, rfl, hr, hb⟩
  go_wp2_with fail
  go_ret
  exact ⟨r, rfl, ix_idx hr, bl2 hb cw⟩
end Go.Proofs.Ytdlmoijeflchgaa.So
