/- AllHere, of the program and of the reference. -/
import Derived.Test.YtiljcjnnhkidbaaAPRest
set_option linter.unusedSimpArgs false
set_option linter.unusedVariables false
namespace Go.TM
open Go
noncomputable def hereB (c : Int) (ms : List (Int × Unit)) (xs : List BunR) : Bool := ms.all fun m => (bunAt xs c m.1).isSome
theorem here_one (b : BunR) (c id : Int) (ms : List (Int × Unit)) (h : b.2.2.2.1.length ≤ 1048576) : impl_AllHere_1 b.1 b.2.1 b.2.2.1 b.2.2.2.1 [(id, ())] [(c, ms, ())] = some (decide (b.1 = id) && (decide (b.2.1 = c) && bunOk b), ()) := by
 unfold impl_AllHere_1; have h1 := (bunOk_spec b h).2; simp only [List.getElem?_cons_zero, Option.bind_some, h1]
 cases decide (b.1 = id)
 · rfl
 cases decide (b.2.1 = c)
 · rfl
 · rfl
theorem here_index (xs : List BunR) (c id : Int) (ms : List (Int × Unit)) (h : xs.length + wl W_iiiLiiisE xs ≤ 1048576) : slices_ContainsFunc_impl_Bundle xs [([(id, ())], [(c, ms, ())], ())] = some ((bunAt xs c id).isSome, ()) := by
 obtain ⟨e, he, hq⟩ := loop_inv (round := slices_IndexFunc_impl_Bundle_r0) (x := (xs, [([(id, ())], [(c, ms, ())], ())], ((List.length xs : Nat) : Int), ((0 : Nat) : Int), ())) xs.length
   (fun k x => x = (xs, [([(id, ())], [(c, ms, ())], ())], ((List.length xs : Nat) : Int), ((k : Nat) : Int), ()) ∧ bunAt xs c id = bunAt (xs.drop k) c id)
   (fun e => (e = .inl () ∧ bunAt xs c id = none) ∨ (∃ j : Nat, e = .inr (((j : Nat) : Int), ()) ∧ (bunAt xs c id).isSome = true)) (by
     rintro x ⟨rfl, g⟩
     refine ⟨.inl (), by simp only [slices_IndexFunc_impl_Bundle_r0, slices_IndexFunc_impl_Bundle_c0, lt_nat_irr, cond_false], .inl ⟨rfl, ?_⟩⟩; rw [g, List.drop_length]; rfl) (by
     rintro k x hk ⟨rfl, g⟩
     rw [bun_drop xs c id hk] at g; have h1 := here_one xs[k] c id ms (buns_len xs hk h); simp only [slices_IndexFunc_impl_Bundle_r0, slices_IndexFunc_impl_Bundle_c0, lt_nat_true hk, zero_le_nat, cond_true, toNat_nat, List.getElem?_eq_getElem hk, List.getElem?_cons_zero, Option.bind_some, h1, succ_wrap (show k < 4611686018427387904 by omega)]
     cases hb : (decide (xs[k].1 = id) && (decide (xs[k].2.1 = c) && bunOk xs[k]))
     · rw [hb] at g; exact .inr ⟨_, rfl, rfl, g⟩
     · rw [hb] at g; exact .inl ⟨_, rfl, .inr ⟨k, rfl, by rw [g]; rfl⟩⟩) ⟨rfl, rfl⟩
 have he : loopV slices_IndexFunc_impl_Bundle_r0 (xs, [([(id, ())], [(c, ms, ())], ())], ((List.length xs : Nat) : Int), (0 : Int), ()) = some e := he; unfold slices_ContainsFunc_impl_Bundle slices_IndexFunc_impl_Bundle; rw [he]; rcases hq with ⟨rfl, q⟩ | ⟨j, rfl, q⟩
 · rw [q]; rfl
 · rw [q]; simp only [outK_inr, Option.bind_some, zero_le_nat]
theorem allHere_same (c : Int) (ms : List (Int × Unit)) (xs : List BunR) (h0 : ms.length ≤ 1048576) (h : xs.length + wl W_iiiLiiisE xs ≤ 1048576) : spec_AllHere c ms xs = some (hereB c ms xs, ()) ∧ impl_AllHere c ms xs = some (hereB c ms xs, ()) := by
 have all_drop : ∀ {k : Nat} (hk : k < ms.length), hereB c (ms.drop k) xs = ((bunAt xs c ms[k].1).isSome && hereB c (ms.drop (k + 1)) xs) := fun hk => by
   unfold hereB; rw [List.drop_eq_getElem_cons hk, List.all_cons]
 have fin : ∀ {e : Sum Unit (Bool × Unit)} {b : Bool}, ((e = .inl () ∧ b = true) ∨ (e = .inr (false, ()) ∧ b = false)) → outK (some e) (fun _ => some (true, ())) (fun y => some (y.1, ())) = some (b, ()) := by
   rintro e b (⟨rfl, rfl⟩ | ⟨rfl, rfl⟩)
   · rfl
   · rfl
 constructor
 · obtain ⟨e, he, hq⟩ := loop_inv (round := spec_AllHere_r0) (x := (xs, c, ms, ((0 : Nat) : Int), ())) ms.length
     (fun k x => x = (xs, c, ms, ((k : Nat) : Int), ()) ∧ hereB c ms xs = hereB c (ms.drop k) xs)
     (fun e => (e = .inl () ∧ hereB c ms xs = true) ∨ (e = .inr (false, ()) ∧ hereB c ms xs = false)) (by
       rintro x ⟨rfl, g⟩
       refine ⟨.inl (), by simp only [spec_AllHere_r0, spec_AllHere_c0, lt_nat_irr, cond_false], .inl ⟨rfl, ?_⟩⟩; rw [g, List.drop_length]; rfl) (by
       rintro k x hk ⟨rfl, g⟩
       rw [all_drop hk] at g; simp only [spec_AllHere_r0, spec_AllHere_c0, lt_nat_true hk, zero_le_nat, cond_true, toNat_nat, List.getElem?_eq_getElem hk, Option.bind_some, first_spec c ms xs _ h, succ_wrap (show k < 4611686018427387904 by omega)]
       cases hb : bunAt xs c ms[k].1 with
       | none =>
         rw [hb] at g; exact .inl ⟨_, rfl, .inr ⟨rfl, g⟩⟩
       | some b =>
         rw [hb] at g; exact .inr ⟨_, rfl, rfl, g⟩) ⟨rfl, rfl⟩
   have he : loopV spec_AllHere_r0 (xs, c, ms, (0 : Int), ()) = some e := he; unfold spec_AllHere; rw [he]; exact fin hq
 · obtain ⟨e, he, hq⟩ := loop_inv (round := impl_AllHere_r0) (x := (xs, [(c, ms, ())], ms, ((List.length ms : Nat) : Int), ((0 : Nat) : Int), ())) ms.length
     (fun k x => x = (xs, [(c, ms, ())], ms, ((List.length ms : Nat) : Int), ((k : Nat) : Int), ()) ∧ hereB c ms xs = hereB c (ms.drop k) xs)
     (fun e => (e = .inl () ∧ hereB c ms xs = true) ∨ (e = .inr (false, ()) ∧ hereB c ms xs = false)) (by
       rintro x ⟨rfl, g⟩
       refine ⟨.inl (), by simp only [impl_AllHere_r0, impl_AllHere_c0, lt_nat_irr, cond_false], .inl ⟨rfl, ?_⟩⟩; rw [g, List.drop_length]; rfl) (by
       rintro k x hk ⟨rfl, g⟩
       rw [all_drop hk] at g; simp only [impl_AllHere_r0, impl_AllHere_c0, lt_nat_true hk, zero_le_nat, cond_true, toNat_nat, List.getElem?_eq_getElem hk, Option.bind_some, here_index xs c _ ms h, succ_wrap (show k < 4611686018427387904 by omega)]
       cases hb : (bunAt xs c ms[k].1).isSome
       · rw [hb] at g; exact .inl ⟨_, rfl, .inr ⟨rfl, g⟩⟩
       · rw [hb] at g; exact .inr ⟨_, rfl, rfl, g⟩) ⟨rfl, rfl⟩
   have he : loopV impl_AllHere_r0 (xs, [(c, ms, ())], ms, ((List.length ms : Nat) : Int), (0 : Int), ()) = some e := he; unfold impl_AllHere; rw [he]; exact fin hq
end Go.TM
