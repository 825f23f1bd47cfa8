/- Drawn texts. -/
import Derived.Test.YtiljcjnnhkidbaaBPDraw
set_option linter.unusedSimpArgs false
set_option linter.unusedVariables false
namespace Go.TM
open Go
theorem text_size (code : List (Int × Unit)) (at_ seed : Int) (n : Nat) (h : DrawAt code at_) (hn : n ≤ 5000) : ∃ b at' s', spec_l01Text code at_ seed ((n : Nat) : Int) = some (b, code, at', s', ()) ∧ b.size = n ∧ DrawAt code at' := by
 obtain ⟨e, he, hq⟩ := loop_inv (round := spec_l01Text_r0) (x := (code, at_, seed, ((n : Nat) : Int), [], ((0 : Nat) : Int), ())) n (fun k y => ∃ (a s : Int) (l : List (Int × Unit)), y = (code, a, s, ((n : Nat) : Int), l, ((k : Nat) : Int), ()) ∧ l.length = k ∧ DrawAt code a) (fun e => ∃ (a s : Int) (l : List (Int × Unit)), e = .inl (code, a, s, l, ()) ∧ l.length = n ∧ DrawAt code a) (by
     rintro y ⟨a, s, l, rfl, hl, hd⟩
     exact ⟨.inl (code, a, s, l, ()), by simp only [spec_l01Text_r0, spec_l01Text_c0, lt_nat_irr, cond_false], _, _, _, rfl, hl, hd⟩) (by
     rintro k y hk ⟨a, s, l, rfl, hl, hd⟩
     obtain ⟨v, a1, s1, e1, _, _, d1⟩ := byte_ok code a s hd; refine .inr ⟨_, ?_, a1, s1, l ++ [(IntKind.u8.wrap v, ())], rfl, by simp [hl], d1⟩; simp only [spec_l01Text_r0, spec_l01Text_c0, lt_nat_true hk, cond_true, e1, Option.bind_some, ble_true (show (l.length + 1) * 1 ≤ lim by unfold lim; omega), succ_wrap (show k < 4611686018427387904 by omega)]) ⟨at_, seed, [], rfl, rfl, h⟩
 have he : loopV spec_l01Text_r0 (code, at_, seed, ((n : Nat) : Int), [], (0 : Int), ()) = some e := he; obtain ⟨a, s, l, rfl, hl, hd⟩ := hq; unfold spec_l01Text; rw [dec_false (show ¬ (5000 : Int) < ((n : Nat) : Int) by omega), he]; exact ⟨_, _, _, rfl, by rw [bytesOf_size, hl], hd⟩
end Go.TM
