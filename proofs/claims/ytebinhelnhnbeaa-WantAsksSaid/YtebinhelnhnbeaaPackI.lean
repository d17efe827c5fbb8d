/- pack's contracts, each at the number that it tells. -/
import Derived.Test.YtebinhelnhnbeaaPackR6
set_option linter.unusedSimpArgs false
set_option linter.unusedVariables false
namespace Go.Proofs.Ytebinhelnhnbeaa
open Go.RowKit
theorem wint_is {g : Nat} {v : Int} {l l' : List UInt8} {base : Nat} {w : World} (h : WB w base g l) (hl : l.length ≤ 1000000000) (h0 : -9223372036854775808 ≤ v) (h1 : v ≤ 9223372036854775807) (e : l ++ enc v = l') :
    Calls Try.prog 18 #[.pointer (some ⟨g, 0, none⟩), .int .i64 v] w (WP w base g l') := e ▸ wint_c g v l base w h hl h0 h1
theorem wtext_is {g : Nat} {s : ByteArray} {l l' : List UInt8} {base : Nat} {w : World} (h : WB w base g l) (hl : l.length ≤ 1000000000) (hs : s.size ≤ 1000000000) (e : l ++ encT s.data.toList = l') :
    Calls Try.prog 20 #[.pointer (some ⟨g, 0, none⟩), .string s] w (WP w base g l') := e ▸ wtext_c g s l base w h hl hs
theorem rint_is {g : Nat} {lo hi v : Int} {s s' : Rs} {w : World} {D : Nat} (h : RP w D g s) (hD : D ≤ w.heap.size) (e : rInt lo hi s = (v, s')) :
    Calls Try.prog 25 #[.pointer (some ⟨g, 0, none⟩), .int .i64 lo, .int .i64 hi] w (RPost w D g (.int .i64 v) s') := by
  have := rint_c g lo hi s w D h hD
  rwa [e] at this
theorem rbyte_is {g : Nat} {v : Int} {s s' : Rs} {w : World} {D : Nat} (h : RP w D g s) (e : rByte s = (v, s')) :
    Calls Try.prog 29 #[.pointer (some ⟨g, 0, none⟩)] w (RPost w D g (.int .i64 v) s') := by
  have := rbyte_c g s w D h
  rwa [e] at this
theorem rtext_is {g : Nat} {most : Int} {l : List UInt8} {s s' : Rs} {w : World} {D : Nat} (h : RP w D g s) (hD : D ≤ w.heap.size) (e : rText most s = (l, s')) :
    Calls Try.prog 27 #[.pointer (some ⟨g, 0, none⟩), .int .i64 most] w (RPost w D g (.string ⟨l.toArray⟩) s') := by
  have := rtext_c g most s w D h hD
  rwa [e] at this
theorem rend_is {g : Nat} {v : Int} {s : Rs} {w : World} {D : Nat} (h : RP w D g s) (e : rEnd s = v) : Calls Try.prog 31 #[.pointer (some ⟨g, 0, none⟩)] w fun e w' => e = .returned (.int .i64 v) ∧ w = w' := by
  have := rend_c g s w D h
  rwa [e] at this
theorem rd_litB (w : World) (l : List UInt8) (cs : Array Value) (n : Nat) (hcs : cs.toList = B8 l) (hn : l.length = n) (t : TypeId) (m : Nat × Nat) : Rd (w.alloc (.cells cs t m)) (w.alloc (.cells cs t m)).heap.size 1 (some ⟨w.heap.size, 0, none⟩) n (B8 l) :=
  ⟨by rw [B8_len]; omega, fun _ => ⟨_, rfl, by simp, by rw [← hcs]; exact World.news_of_block (heap_alloc_new w _)⟩⟩
end Go.Proofs.Ytebinhelnhnbeaa
