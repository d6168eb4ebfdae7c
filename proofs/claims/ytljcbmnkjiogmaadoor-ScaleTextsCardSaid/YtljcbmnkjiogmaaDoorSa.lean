/- The library's functions of strings, by the kit's contracts. No condition. -/
import Derived.Test.YtljcbmnkjiogmaaDoorWd
import Derived.Test.YtljcbmnkjiogmaaDoorShelf
import Derived.Test.YtljcbmnkjiogmaaDoorProg
namespace Go.Proofs.YtljcbmnkjiogmaaDoor.Sv
open Go Go.RowKit
set_option linter.unusedVariables false
set_option linter.unusedSimpArgs false
set_option maxRecDepth 100000

theorem laid_pow {w : World} (h : Laid w) : Lib.TabIs Tryd.prog w "internal/strconv.uint64pow10" .u64 Lib.pow10Tab := by
  obtain ⟨cs, e, fr, hc, h0⟩ := h 0 (some ((List.range 20).map fun i => Value.int .u64 ((10 ^ i : Nat) : Int)).toArray) List.mem_cons_self
  have hg : Tryd.prog.globalNamed "internal/strconv.uint64pow10" = some 0 := by kernel_rfl
  have hc : cs = ((List.range 20).map fun i => Value.int .u64 ((10 ^ i : Nat) : Int)).toArray := hc
  subst hc
  unfold Lib.TabIs World.var?
  rw [hg]
  simp only [Option.bind_some, h0]
  rw [Lib.pow10Tab, List.map_map]
  rfl
theorem laid_max {w : World} (h : Laid w) : ∃ m, w.cell? ⟨1, 0, none⟩ = some (.int .i64 m) := by
  obtain ⟨cs, e, fr, ⟨m, hc⟩, h0⟩ := h 1 none (List.mem_cons_of_mem _ List.mem_cons_self)
  subst hc
  exact ⟨m, by simp [World.cell?, h0]⟩
theorem below_grow' (w : World) (k : Nat) (os : Array Obj) : Below w.heap.size w (Sort.grow (w.drewN k) os) := by
  refine ⟨rfl, rfl, rfl, ?_, fun b hb => ?_⟩
  · show w.heap.size ≤ (w.heap ++ os).size
    simp
  · show (w.heap ++ os)[b]? = w.heap[b]?
    exact Array.getElem?_append_left hb
abbrev strB (l : List UInt8) : V := .s ⟨l.toArray⟩
theorem Itoa_ok (n : Int) (h : -9223372036854775808 ≤ n ∧ n ≤ 9223372036854775807) : Pure Tryd.prog 45 [.n .i64 n] (strB (Lib.itoa n)) := by
  refine pure_of_calls (fun us w => enters_of Tryd.func45 (by kernel_rfl) rfl us w) fun w U us hL hU hus => ?_
  obtain ⟨u, rfl, hu⟩ := hus.one
  cases hu
  refine (Tryd.strconv_Itoa n h.1 h.2 w (laid_pow hL)).mono ?_
  rintro e w' ⟨rfl, k, os, rfl⟩
  exact ⟨_, rfl, .s _, below_grow' _ _ _⟩
theorem FormatInt_ok (n : Int) (h : -9223372036854775808 ≤ n ∧ n ≤ 9223372036854775807) : Pure Tryd.prog 63 [.n .i64 n, .n .i64 10] (strB (Lib.itoa n)) := by
  refine pure_of_calls (fun us w => enters_of Tryd.func63 (by kernel_rfl) rfl us w) fun w U us hL hU hus => ?_
  obtain ⟨u, u', rfl, hu, hu'⟩ := hus.two
  cases hu
  cases hu'
  refine (Tryd.strconv_FormatInt_10 n h.1 h.2 w (laid_pow hL)).mono ?_
  rintro e w' ⟨rfl, k, os, rfl⟩
  exact ⟨_, rfl, .s _, below_grow' _ _ _⟩
/-- A row of strings. -/
abbrev strsV (l : List ByteArray) (t : Bool) : V := .sl l.length (l.map V.s) t
theorem strJoin_ok (l : List ByteArray) (t : Bool) (sep : ByteArray) (h1 : 1 ≤ l.length) (h2 : l.length ≤ 140737488355328) (h3 : (Lib.join (l.map (·.data.toList)) sep.data.toList).length ≤ 140737488355328) : Pure Tryd.prog 50 [strsV l t, .s sep] (strB (Lib.join (l.map (·.data.toList)) sep.data.toList)) := by
  refine pure_of_calls (fun us w => enters_of Tryd.func50 (by kernel_rfl) rfl us w) fun w U us hL hU hus => ?_
  obtain ⟨u, u', rfl, hu, hu'⟩ := hus.two
  cases hu'
  have hu : RepV w (fun b => b < w.heap.size ∧ ¬ U b) (.sl l.length (l.map V.s) t) u := hu
  generalize hc : l.map V.s = cs at hu
  generalize hn : l.length = n at hu
  cases hu with
  | sl0 => omega
  | sl _ _ _ us bl off cap hok hl ht hcl hr =>
    subst hn
    subst hc
    refine (Tryd.strings_Join bl off cap l sep w (fun j x hj => ?_) hok.1 h2 hl h3).mono ?_
    · have hj' : (l.map V.s)[j]? = some (.s x) := by rw [List.getElem?_map, hj]; rfl
      have h4 := hcl j _ hj'
      have h5 := hr j _ hj'
      generalize us j = u at h4 h5
      cases h5
      exact h4
    · rintro e w' ⟨rfl, hb⟩
      exact ⟨_, rfl, .s _, hb⟩
end Go.Proofs.YtljcbmnkjiogmaaDoor.Sv
