/- Drawn texts. -/
import Derived.Test.YtiljcjnnhkidbaaCPDraw
set_option linter.unusedSimpArgs false
set_option linter.unusedVariables false
namespace Go.TM
open Go
theorem long_size (n : Nat) (x : Int) (h : n ≤ 1048576) : ∃ b, spec_l01Long ((n : Nat) : Int) x = some (b, ()) ∧ b.size = n := by
 unfold spec_l01Long; obtain ⟨e, he, hq⟩ := loop_inv (round := spec_l01Long_r0) (x := (((n : Nat) : Int), x, List.replicate n ((0 : Int), ()), ((0 : Nat) : Int), ())) n (fun k y => ∃ l : List (Int × Unit), y = (((n : Nat) : Int), x, l, ((k : Nat) : Int), ()) ∧ l.length = n) (fun e => ∃ l : List (Int × Unit), e = .inl (l, ()) ∧ l.length = n) (by
     rintro y ⟨l, rfl, hl⟩
     exact ⟨.inl (l, ()), by simp only [spec_l01Long_r0, spec_l01Long_c0, lt_nat_irr, cond_false], _, rfl, hl⟩) (by
     rintro k y hk ⟨l, rfl, hl⟩
     have hkl : k < l.length := by omega
     refine .inr ⟨_, ?_, l.set k (x, ()), rfl, (by rw [List.length_set]; exact hl)⟩; simp only [spec_l01Long_r0, spec_l01Long_c0, lt_nat_true hk, zero_le_nat, cond_true, toNat_nat, blt_true hkl, List.getElem?_eq_getElem hkl, Option.bind_some, succ_wrap (show k < 4611686018427387904 by omega)]) ⟨List.replicate n ((0 : Int), ()), rfl, List.length_replicate⟩
 have he : loopV spec_l01Long_r0 (((n : Nat) : Int), x, List.replicate n ((0 : Int), ()), (0 : Int), ()) = some e := he; obtain ⟨l, rfl, hl⟩ := hq; simp only [decide_true, cond_true, zero_le_nat, toNat_nat, ble_true (show n * 1 ≤ lim by unfold lim; omega), he, outK_inl]; exact ⟨_, rfl, by rw [bytesOf_size, hl]⟩
end Go.TM
