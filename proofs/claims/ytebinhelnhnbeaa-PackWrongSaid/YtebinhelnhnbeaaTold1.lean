/- The few examples that each statement of layer 1 asks first. -/
import Derived.Test.YtebinhelnhnbeaaPackR6
import Derived.Test.YtebinhelnhnbeaaSum
set_option linter.unusedSimpArgs false
set_option linter.unusedVariables false
namespace Go.Proofs.Ytebinhelnhnbeaa
open Go.RowKit
theorem wint_is {g : Nat} {v : Int} {l l' : List UInt8} {base : Nat} {w : World} (h : WB w base g l) (hl : l.length ≤ 1000000000) (h0 : -9223372036854775808 ≤ v) (h1 : v ≤ 9223372036854775807) (e : l ++ enc v = l') :
    Calls Try.prog 18 #[.pointer (some ⟨g, 0, none⟩), .int .i64 v] w (WP w base g l') := e ▸ wint_c g v l base w h hl h0 h1
theorem wtext_is {g : Nat} {s : ByteArray} {l l' : List UInt8} {base : Nat} {w : World} (h : WB w base g l) (hl : l.length ≤ 1000000000) (hs : s.size ≤ 1000000000) (e : l ++ encT s.data.toList = l') :
    Calls Try.prog 20 #[.pointer (some ⟨g, 0, none⟩), .string s] w (WP w base g l') := e ▸ wtext_c g s l base w h hl hs
theorem rint_is {g : Nat} {lo hi v : Int} {s s' : Rs} {w : World} {D : Nat} (h : RP w D g s) (hD : D ≤ w.heap.size) (e : rInt lo hi s = (v, s')) :
    Calls Try.prog 25 #[.pointer (some ⟨g, 0, none⟩), .int .i64 lo, .int .i64 hi] w (RPost w D g (.int .i64 v) s') := by
  have := rint_c g lo hi s w D h hD
  rwa [e] at this
theorem rbyte_is {g : Nat} {v : Int} {s s' : Rs} {w : World} {D : Nat} (h : RP w D g s) (e : rByte s = (v, s')) :
    Calls Try.prog 29 #[.pointer (some ⟨g, 0, none⟩)] w (RPost w D g (.int .i64 v) s') := by
  have := rbyte_c g s w D h
  rwa [e] at this
theorem rtext_is {g : Nat} {most : Int} {l : List UInt8} {s s' : Rs} {w : World} {D : Nat} (h : RP w D g s) (hD : D ≤ w.heap.size) (e : rText most s = (l, s')) :
    Calls Try.prog 27 #[.pointer (some ⟨g, 0, none⟩), .int .i64 most] w (RPost w D g (.string ⟨l.toArray⟩) s') := by
  have := rtext_c g most s w D h hD
  rwa [e] at this
theorem rend_is {g : Nat} {v : Int} {s : Rs} {w : World} {D : Nat} (h : RP w D g s) (e : rEnd s = v) : Calls Try.prog 31 #[.pointer (some ⟨g, 0, none⟩)] w fun e w' => e = .returned (.int .i64 v) ∧ w = w' := by
  have := rend_c g s w D h
  rwa [e] at this
theorem sum_is {A : Option Addr} {n c : Nat} {l : List UInt8} {w : World} {D s : Nat} (hr : Rd w D 1 A n (B8 l)) (hn : n ≤ 9223372036854775807) (e : crc l = s) :
    Calls Try.prog 33 #[.slice A n c] w fun e w' => e = .returned (.int .u32 (s : Int)) ∧ w = w' := e ▸ sum_any A n c l w D hr hn
theorem t1a : ([] : List UInt8) ++ enc (-1) = [1] := by decide +kernel
theorem t1b : [1, 7] ++ encT [97, 98] = [1, 7, 4, 97, 98] := by decide +kernel
theorem t1c : rInt (-5) 5 (some [1, 7, 4, 97, 98]) = (-1, some [7, 4, 97, 98]) := by decide +kernel
theorem t1d : rByte (some [7, 4, 97, 98]) = (7, some [4, 97, 98]) := by decide +kernel
theorem t1e : rText 2 (some [4, 97, 98]) = ([97, 98], some []) := by decide +kernel
theorem t1f : crc [49, 50, 51, 52, 53, 54, 55, 56, 57] = 3421780262 := by decide +kernel
/-- A writer's variable is laid. -/
theorem alloc_writer (w : World) : True := trivial
theorem rd_litB (w : World) (l : List UInt8) (cs : Array Value) (n : Nat) (hcs : cs.toList = B8 l) (hn : l.length = n) (t : TypeId) (m : Nat × Nat) : Rd (w.alloc (.cells cs t m)) (w.alloc (.cells cs t m)).heap.size 1 (some ⟨w.heap.size, 0, none⟩) n (B8 l) :=
  ⟨by rw [B8_len]; omega, fun _ => ⟨_, rfl, by simp, by rw [← hcs]; exact World.news_of_block (heap_alloc_new w _)⟩⟩
set_option maxRecDepth 100000 in
set_option maxHeartbeats 2000000 in
theorem told1 (w : World) : Calls Try.prog 17 #[] w fun e w' => e = .returned (.bool true) ∧ Below w.heap.size w w' := by
  have kc := fun (w : World) (C : Array Value) (n c : Nat) => Lib.run_convert_bytes_const (P := Try.prog) w 24 5 C n c Try.underlying24 Try.underlying5
  have HW := Lib.hid (WB.new w w.heap.size (Nat.le_refl _))
  go_enter Try.func17, Try.ntmps17
  go_wp2_with fail
  refine (wint_is HW.out (by simp) (by omega) (by omega) t1a).mono ?_
  rintro e w1 ⟨rfl, h1, b1, _⟩
  have H1 := Lib.hid h1
  have B1 := Lib.hid (show Below w.heap.size w w1 from ((Below.refl _ _).alloc (Nat.le_refl _) _).trans b1)
  clear h1 b1
  go_wp2_with fail
  refine (wbyte_c w.heap.size 7 7 [1] w.heap.size _ (by decide) H1.out (by simp)).mono ?_
  rintro e w2 ⟨rfl, h2, b2, _⟩
  have H2 := Lib.hid h2
  have B2 := Lib.hid (B1.out.trans b2)
  clear h2 b2
  go_wp2_with fail
  refine (wtext_is (l := [1, 7]) H2.out (by simp) (by decide) t1b).mono ?_
  rintro e w3 ⟨rfl, h3, b3, _⟩
  have H3 := Lib.hid h3
  have B3 := Lib.hid (B2.out.trans b3)
  clear h3 b3
  go_wp2_with fail
  refine (wbytes_c _ _ _ _ H3.out (by simp)).mono ?_
  rintro e w4 ⟨v4, rfl, h4, b4⟩
  obtain ⟨A4, c4, rfl, _, _, r4⟩ := h4.form
  have R4 := Lib.hid r4
  have B4 := Lib.hid (B3.out.trans (b4.mono B3.out.size))
  clear h4 b4 r4
  go_wp2_with fail
  refine (new_c A4 _ c4 _ _ R4.out (by simp)).mono ?_
  rintro e w5 ⟨g, rfl, hg, h5, b5⟩
  have R5 := Lib.hid ((R4.out.below b5).more b5.size)
  have H5 := Lib.hid h5
  have B5 := Lib.hid (B4.out.trans (b5.mono B4.out.size))
  have HG := Lib.hid hg
  clear h5 b5 hg
  have hcv : (convert 24 9 (.slice A4 5 c4)).run Try.prog w5 = .ok (.string ⟨#[1, 7, 4, 97, 98]⟩) w5 := run_conv_str R5.out
  go_wp2_with fail
  clear hcv
  refine (rint_is H5.out (Nat.le_refl _) t1c).mono ?_
  rintro e w6 ⟨rfl, h6, g6⟩
  have H6 := Lib.hid h6
  have B6 := Lib.hid (B5.out.trans (only_lt g6 B5.out.size (Nat.le_trans B4.out.size HG.out)))
  have hz6 := g6.size
  clear h6 g6
  go_wp2_with fail
  refine (rbyte_is H6.out t1d).mono ?_
  rintro e w7 ⟨rfl, h7, g7⟩
  have H7 := Lib.hid h7
  have B7 := Lib.hid (B6.out.trans (only_lt g7 B6.out.size (Nat.le_trans B4.out.size HG.out)))
  have hz7 := g7.size
  clear h7 g7
  go_wp2_with fail
  refine (rtext_is H7.out (by omega) t1e).mono ?_
  rintro e w8 ⟨rfl, h8, g8⟩
  have H8 := Lib.hid h8
  have B8' := Lib.hid (B7.out.trans (only_lt g8 B7.out.size (Nat.le_trans B4.out.size HG.out)))
  clear h8 g8
  go_wp2_with fail
  refine (rend_is H8.out (v := 0) rfl).mono ?_
  rintro e w' ⟨rfl, rfl⟩
  go_wp2_with fail
  refine (sum_is (rd_litB w8 [49, 50, 51, 52, 53, 54, 55, 56, 57] _ 9 rfl rfl _ _) (by omega) t1f).mono ?_
  rintro e w9 ⟨rfl, rfl⟩
  go_wp2_with fail
  refine (new_c none 0 0 [] _ Rd.nil (by omega)).mono ?_
  rintro e w10 ⟨g', rfl, hg', h10, b10⟩
  have H10 := Lib.hid h10
  have B10 := Lib.hid b10
  clear h10 b10 hg'
  go_wp2_with fail
  refine (rend_is H10.out (v := 0) rfl).mono ?_
  rintro e w' ⟨rfl, rfl⟩
  go_wp2
  go_ret
  refine ⟨rfl, ?_⟩
  exact (B8'.out.alloc B8'.out.size _).trans (B10.out.mono (by have := B8'.out.size; simp; omega))
end Go.Proofs.Ytebinhelnhnbeaa
