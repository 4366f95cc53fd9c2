/-
  Parts of the proof: B11.
-/
import Derived.Test.YtjhpiclnpmdjnaaGreatDoorQ01
import Derived.Test.YtjhpiclnpmdjnaaGreatDoorQ11
import Derived.Lib.ItoaLen
import Derived.Lib.AppendStr
import Derived.Laws.IdiomStrings
namespace Go.Proofs.YtjhpiclnpmdjnaaGreatDoor.Bm
open Go Go.RowKit
open Go.Proofs.YtjhpiclnpmdjnaaGreatDoor
open Go.Proofs.YtjhpiclnpmdjnaaGreatDoor.Ln (flat flat_len flat_get flat_mem RowIn OwnR Idx bl2 take_at one_at call_wp value_wp SB tk ts z0 z1 z2 z3 z4 z5)
open Go.Proofs.YtjhpiclnpmdjnaaGreatDoor.Sr (GV)
set_option linter.unusedSimpArgs false
set_option linter.unusedVariables false
set_option maxRecDepth 100000

def Tab (w : World) : Prop := Lib.TabIs Tryz.prog w "internal/strconv.uint64pow10" .u64 Lib.pow10Tab
theorem Tab.of {w w' : World} (h : Tab w) (hb : Below w.heap.size w w') : Tab w' := Lib.tabBelow_of_tabIs h w' hb
theorem wint_any (n : Int) (w : World) (hn : -9223372036854775808 ≤ n ∧ n ≤ 9223372036854775807) (ht : Tab w) : Calls Tryz.prog 138 #[.int .i64 n] w fun e w' => (∃ s : ByteArray, e = .returned (.string s) ∧ s.size ≤ 21) ∧ Below w.heap.size w w' := by
 have HT := Lib.hid ht
 have HN := Lib.hid hn
 clear ht hn
 go_enter Tryz.func138, Tryz.ntmps138
 go_wp2_with fail
 refine (Tryz.strconv_Itoa n HN.out.1 HN.out.2 w HT.out).mono ?_
 rintro e w1 ⟨rfl, k, os, rfl⟩
 have hb := Lib.below_grow w.heap.size w (Nat.le_refl _) k os
 generalize Go.Sort.grow (w.drewN k) os = w1 at *
 have HL := Lib.hid (Lib.itoa_length_le n HN.out.1 HN.out.2)
 generalize Lib.itoa n = l at *
 go_wp2_with fail
 go_ret
 exact ⟨⟨_, rfl, by have := HL.out; simpa [ByteArray.size] using this⟩, hb⟩
def senc (s : ByteArray) : List Value := [.string s]
theorem senc_len (s : ByteArray) : (senc s).length = 1 := rfl
theorem senc_one (s : ByteArray) : ∀ u ∈ senc s, u.oneCell' = true := by
 intro u hu
 simp only [senc, List.mem_cons, List.not_mem_nil, or_false] at hu
 rw [hu]; rfl
def sizes (xs : List ByteArray) : Nat := (xs.map fun s => s.size).sum
theorem sizes_succ {xs : List ByteArray} {k : Nat} (h : k < xs.length) : sizes (xs.take (k + 1)) = sizes (xs.take k) + (xs[k]!).size := by
 unfold sizes
 rw [List.take_succ_eq_append_getElem h, getElem!_pos xs k h, List.map_append, List.sum_append]
 simp
theorem byte_app (l m : List UInt8) : Lib.byteCells l ++ Lib.byteCells m = Lib.byteCells (l ++ m) := by simp [Lib.byteCells]
theorem byte_info : (Tryz.prog.info? 5).map (fun i => (i.zero, i.size, i.bytes)) = some (some (.int .u8 0), 1, 1) := by kernel_rfl
def PkR (w : World) (xs : List ByteArray) (g : Nat) (s3 s8 : Value) (W : World) : Prop := ∃ (k : Nat) (l : List UInt8), k + g = xs.length ∧ s8 = .int .i64 k ∧ W.ownsRow w.heap.size 5 1 s3 l.length (Lib.byteCells l) ∧ l.length ≤ sizes (xs.take k) + 22 * k ∧ (0 < k → l ≠ []) ∧ Below w.heap.size w W
theorem len_bs (l : List UInt8) (s : ByteArray) : (l ++ s.data.toList).length = l.length + s.size := by
 rw [List.length_append, Array.length_toList]
 rfl
theorem own_ne {W : World} {B n : Nat} {e : TypeId} {v : Value} {l : List UInt8} (h : W.ownsRow B e 1 v n (Lib.byteCells l)) (hl : l ≠ []) : v ≠ .slice none 0 0 := by
 intro hv
 rcases h.2 with ⟨_, h2⟩ | ⟨g, c, cur, h2, _⟩
 ·cases l with
  | nil => exact hl rfl
  | cons x t =>
   have h1 := h.1
   rw [h2] at h1
   simp [Lib.byteCells] at h1
 ·rw [hv] at h2; cases h2
theorem one_new {W : World} {u : Value} {t : TypeId} : ∀ (j : Nat) (v : Value), [u][j]? = some v → (W.alloc (.cells #[u] t)).cell? ((⟨W.heap.size, 0, none⟩ : Addr).add j) = some v := by
 intro j v hj
 cases j with
 | zero =>
  have e : v = u := by simpa using hj.symm
  rw [e, show (⟨W.heap.size, 0, none⟩ : Addr).add 0 = ⟨W.heap.size, 0 + 0, none⟩ from Go.WideShapes.add_plain ..]
  exact Bk.Blk.c0 Bk.Blk.nw10
 | succ j => simp at hj
theorem own_low {W : World} {B n : Nat} {e : TypeId} {k : Nat} {v : Value} {xs : List Value} (h : W.ownsRow B e k v n xs) : ∀ j, v.ownBlock = some j → B ≤ j := by
 intro j hj
 rcases h.2 with ⟨h1, _⟩ | ⟨g, c, cur, h1, h2, _⟩
 ·rw [h1] at hj; cases hj
 ·rw [h1] at hj
  have : g = j := by simpa [Value.ownBlock] using hj
  omega
theorem own_bytes {W : World} {B : Nat} {e : TypeId} {v : Value} {l : List UInt8} (h : W.ownsRow B e 1 v l.length (Lib.byteCells l)) (hv : v ≠ .slice none 0 0) : ∃ g c, v = .slice (some ⟨g, 0, none⟩) l.length c ∧ ∀ j (hj : j < l.length), W.cell? ((⟨g, 0, none⟩ : Addr).add j) = some (.int .u8 (l[j].toNat : Int)) := by
 rcases h.2 with ⟨h1, _⟩ | ⟨g, c, cur, h1, _⟩
 ·exact absurd h1 hv
 ·refine ⟨g, c, h1, fun j hj => ?_⟩
  have hh := World.ownsRow.cells h (g := g) (by rw [h1]; rfl)
  exact hh j _ (by simp [Lib.byteCells, hj])
theorem sizes_le {xs : List ByteArray} {T : Nat} (h : sizes xs ≤ T) : ∀ k, k ≤ xs.length → sizes (xs.take k) ≤ T := by
 intro k hk
 have e : sizes xs = sizes (xs.take k) + sizes (xs.drop k) := by
  unfold sizes
  rw [← List.sum_append, ← List.map_append, List.take_append_drop]
 omega
set_option maxHeartbeats 8000000 in
theorem pack_any (a : Option Addr) (cap : Nat) (xs : List ByteArray) (T : Nat) (w : World) (h : RowIn senc w a xs) (h0 : 0 < xs.length) (hn : xs.length ≤ 100) (hT : sizes xs ≤ T) (hT2 : T ≤ 1000000) (ht : Tab w) :
  Calls Tryz.prog 137 #[.slice a xs.length cap] w fun e w' => (∃ s : ByteArray, e = .returned (.string s) ∧ s.size ≤ T + 22 * xs.length) ∧ Below w.heap.size w w' := by
 have HL := Lib.hid h
 have HT := Lib.hid (fun (W : World) (hW : Below w.heap.size w W) => ht.of hW)
 have HS := Lib.hid hT
 have H0 := Lib.hid h0
 obtain ⟨i0, hi, hzz⟩ := Option.map_eq_some_iff.1 byte_info
 simp only [Prod.mk.injEq] at hzz
 obtain ⟨hz, hsz, hby⟩ := hzz
 have HI := Lib.hid (And.intro hi (And.intro hz (And.intro hsz hby)))
 clear h ht hi hz hsz hby hT h0
 go_enter Tryz.func137, Tryz.ntmps137
 go_wp2_with fail
 go_loopg [3, 8] xs.length (PkR w xs)
 case atStart => exact ⟨0, [], by omega, rfl, ⟨rfl, .inl ⟨rfl, rfl⟩⟩, by simp, fun h => absurd h (Nat.lt_irrefl _), Below.refl _ _⟩
 case round =>
  obtain ⟨k, l, hk, rfl, hown, hlen, hne, hbr⟩ := hrel

  have HO := Lib.hid hown
  have HNE := Lib.hid hne
  clear hown hne
  by_cases hlt : k < xs.length
  ·obtain ⟨b, off, rfl, hc⟩ := rowat senc_len HL.out (by omega)
   have hm := range_later hbr (hc k hlt)
   have hss := sizes_succ hlt
   have hst := sizes_le HS.out (k + 1) (by omega)
   clear hc
   obtain ⟨s, hxx⟩ : ∃ s, s = xs[k]! := ⟨_, rfl⟩
   rw [← hxx] at hm hss
   clear hxx
   have m0 : wr.cell? ⟨b, off + k, none⟩ = some (.string s) := by have := hm 0 _ rfl; rwa [Nat.mul_one, Nat.add_zero] at this
   clear hm
   have HSS := Lib.hid (And.intro hss hst)
   have hs1 : s.size ≤ 1000000 := by omega
   have hl1 : l.length ≤ 1010000 := by
    have := sizes_le HS.out k (by omega)
    omega
   clear hss hst
   have hz1 := Below.size hbr
   have HZ := Lib.hid hz1
   clear hz1
   go_wp2_with fail
   refine (Tryz.strconv_AppendInt_10 w.heap.size l.length (s.size : Int) (by omega) (by omega) _ _ wr HO.out HZ.out (by omega) (fun w' hb => HT.out _ (hbr.trans hb))).mono ?_
   rintro e w1 ⟨v1, rfl, ho1, hb1, _⟩
   have c1 : Below w.heap.size w w1 := hbr.trans hb1
   have hil := Lib.itoa_length_le (s.size : Int) (by omega) (by omega)
   obtain ⟨t, hit⟩ : ∃ t, t = Lib.itoa (s.size : Int) := ⟨_, rfl⟩
   rw [← hit] at ho1 hil
   rw [byte_app, show l.length + t.length = (l ++ t).length by simp] at ho1
   have hl2 : (l ++ t).length ≤ l.length + 21 := by simp; omega
   have HO1 := Lib.hid ho1
   clear hit ho1 hb1 m0 hbr
   generalize hq : l ++ t = l2 at *
   clear hq hil
   have z1 := Below.size c1
   have HZ1 := Lib.hid z1
   clear z1
   go_wp2_with (at_builtin; refine wpList_append_own _ rfl (.tmp 16) (.tmp 17) 231 rfl w.heap.size 5 i0 (.int .u8 0) 1 1 Tryz.underlying231 HI.out.1 HI.out.2.1 HI.out.2.2.1 HI.out.2.2.2 rfl (by decide) v1 l2.length _ rfl (HO1.out.alloc _) ⟨w1.heap.size, 0, none⟩ 1 1 [.int .u8 58] rfl rfl ?q1 ?q2 ?q3 ?q4 ?q5 ?_)
   case q1 => exact one_new
   case q2 => intro u hu; rw [List.mem_singleton.1 hu]; rfl
   case q3 => unfold maxLen; omega
   case q4 => omega
   case q5 => have := HZ1.out; simp; omega
   intro v2 w2 ho2 hg2 _
   have c2 : Below w.heap.size w w2 := (c1.alloc HZ1.out _).grown hg2 (by have := HZ1.out; simp; omega) (own_low HO1.out)
   rw [show ([.int .u8 58] : List Value) = Lib.byteCells [58] from rfl, byte_app, show l2.length + 1 = (l2 ++ [58]).length by simp] at ho2
   have hl3 : (l2 ++ [58]).length = l2.length + 1 := by simp
   have HO2 := Lib.hid ho2
   clear ho2 hg2 c1
   generalize hq : l2 ++ [58] = l3 at *
   clear hq
   have z2 := Below.size c2
   have HZ2 := Lib.hid z2
   have HL3 := Lib.hid hl3
   have hl4 : l3.length ≤ 1020000 := by omega
   clear z2 hl3
   go_wp2_with (at_builtin; refine Lib.wpList_append_own_string _ rfl (.tmp 19) (.tmp 20) 231 9 rfl w.heap.size 5 i0 Tryz.underlying231 Tryz.underlying9 HI.out.1 HI.out.2.1 HI.out.2.2.1 HI.out.2.2.2 v2 l3.length _ rfl HO2.out s rfl ?r1 ?r2 HZ2.out ?_)
   case r1 => unfold maxLen; omega
   case r2 => omega
   intro v3 w3 ho3 hg3 _
   have c3 : Below w.heap.size w w3 := c2.grown hg3 HZ2.out (own_low HO2.out)
   rw [show Lib.strCells s = Lib.byteCells s.data.toList from rfl, byte_app, ← len_bs] at ho3
   have HO3 := Lib.hid ho3
   have HL4 := Lib.hid (len_bs l3 s)
   have HNE3 := Lib.hid (show l3 ++ s.data.toList ≠ [] by intro h; have := congrArg List.length h; rw [HL4.out, HL3.out] at this; simp at this)
   clear ho3 hg3 c2
   go_wp2_with fail
   go_roundg (gk - 1)
   case measure => omega
   case rel => exact ⟨k + 1, l3 ++ s.data.toList, by omega, by go_num, HO3.out, by have := HL4.out; have := HL3.out; have := HSS.out.1; omega, fun _ => HNE3.out, c3⟩
  ·obtain rfl : k = xs.length := by omega
   have hnn := HNE.out H0.out
   have hsz := own_ne HO.out hnn
   obtain ⟨g, c, hv, hcells⟩ := own_bytes HO.out hsz
   have hcv : (convert 231 9 (.slice (some ⟨g, 0, none⟩) l.length c)).run Tryz.prog wr = .ok (.string ⟨l.toArray⟩) wr := run_convert_bytes_back wr _ _ 5 ⟨g, 0, none⟩ c l Tryz.underlying231 Tryz.underlying5 Tryz.underlying9 hcells
   have HL5 := Lib.hid (show l.length ≤ T + 22 * xs.length by have := sizes_le HS.out xs.length (Nat.le_refl _); omega)
   subst hv
   clear hsz hnn hcells hlen
   go_wp2_with fail
   go_ret
   exact ⟨⟨_, rfl, by have := HL5.out; simpa [ByteArray.size] using this⟩, hbr⟩
end Go.Proofs.YtjhpiclnpmdjnaaGreatDoor.Bm
