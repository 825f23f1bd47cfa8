/- The law FnExactAllHere answers true, whatever it is handed; what it is handed reads behind the call as it read before. There are no conditions. -/
import Derived.Test.YtmljblppihbkdaaRows
import Derived.Test.YtmljblppihbkdaaTm4
import Derived.Test.YtmljblppihbkdaaGAuto
import Derived.WalkKit
import Derived.ProofKit
import Derived.OpenShut
import Derived.ShutString
import Derived.ChangeOld
import Derived.Below
import Derived.SizedLaws
set_option linter.unusedSimpArgs false
set_option linter.unusedVariables false
namespace Go.Proofs.Ytmljblppihbkdaa.fnExactAllHere
open Go.ChangeShapes Go.WideShapes Go.ChangeAt Go.RowKit
set_option maxRecDepth 100000 in
theorem lifted (os : Os) (started : os.Started) (H : Type) (enc : TypeId × Value → H) :
    ReturnsInHanded {} Try.checked os 6 .any (Rows.fnExactAllHereSpec.pre6 enc Try.prog Try.f6 Rows.fnExactAllHereRow.domain false) (Rows.fnExactAllHereSpec.post enc Try.prog Try.f6 false true false false) := by
  refine returnsInHanded_of_change_sized (C := Try.checked) Go.TM.own_ok started (by kernel_rfl) Try.func6
    (ChangeSpec.witness6 (enc := enc) (C := Try.checked) false ⟨#[], #[.agg #[.int .i64 0, .slice none 0 0], .slice none 0 0], []⟩ 8 (by kernel_rfl) (by kernel_rfl) (by kernel_rfl) (by kernel_rfl)) ?_
  intro W base args ds gs before hval0 hW hcnd hsz0 _
  have hval : ∀ (j : Nat) t v, Try.f6.params[j]? = some t → args[j]? = some v → Value.okWide Try.prog W .any base t v := hval0
  have hW' := hW
  have hlt := hW'.lt
  obtain ⟨p, q, hA0, hV, rfl, hfz, hnd⟩ := hW
  have hA : DataW.TrodAll enc Try.prog W 0 (fun _ => true) true Try.f6.params.toList args.toList ds p := hA0
  have hA1 := hA
  rw [Try.params6] at hA1
  obtain ⟨v0, vs0, d0, ds0, p0, q0, hargs, rfl, hp0, h0, r0⟩ := trodAll_cons hA1
  obtain ⟨v1, vs1, d1, ds1, p1, q1, hvs1, rfl, hp1, h1, r1⟩ := trodAll_cons r0
  obtain ⟨_, rfl, _⟩ := trodAll_nil r1
  obtain ⟨rfl, rfl⟩ := trodVars_none hV
  refine (Go.TM.law_calls Go.TM.laid_ok Go.TM.k6 (by kernel_rfl) (fun x hx => ⟨(true, ()), Go.TM.law_AllHere x.1 x.2.1 x.2.2.1 ⟨Go.TM.sz_int (Go.TM.szCons.1 hx).1, ⟨Go.TM.sz_len (Go.TM.szCons.1 (Go.TM.szCons.1 hx).2).1, fun y hy => Go.TM.z_i (Go.TM.sz_el (Go.TM.szCons.1 (Go.TM.szCons.1 hx).2).1 y hy)⟩, trivial⟩ ⟨Go.TM.sz_len (Go.TM.szCons.1 (Go.TM.szCons.1 (Go.TM.szCons.1 hx).2).2).1, fun y hy => Go.TM.z_iiiLiiisE (Go.TM.sz_el (Go.TM.szCons.1 (Go.TM.szCons.1 (Go.TM.szCons.1 hx).2).2).1 y hy)⟩, rfl⟩) (fun j t v ht hv => hval j t v (by rwa [Array.getElem?_toList] at ht) hv) hA (fun x hx => hlt x (List.mem_append_left _ hx))).mono fun e W' ⟨he, bel, hargs'⟩ => ?_
  subst he
  exact ⟨_, rfl, _, _, _, [], _, [], hW', trodAll_mk1 (shut_bool Try.underlying4 _), hargs', rfl, bel.frame _, fun h => by cases h⟩
theorem over : Rows.fnExactAllHereRow.holds Try.pinned (OpenSpec.ofChange Rows.fnExactAllHereSpec) :=
  OpenClaim.holds_of_wide 6 Try.f6 rfl rfl rfl rfl rfl rfl rfl ⟨rfl, rfl, rfl, rfl, rfl⟩ rfl rfl rfl rfl rfl (by kernel_rfl) Try.func6 (by kernel_rfl)
    (of_decide_eq_true (by kernel_rfl)) (by unfold Func.isWrapper; first | (rw [if_pos (by decide +kernel)]; kernel_rfl) | (rw [if_neg (by decide +kernel)]; exact ⟨rfl, rfl⟩))
    (fun os started H enc _ => lifted os started H enc)
theorem proved : Rows.FnExactAllHereSaid := over
#print axioms proved
end Go.Proofs.Ytmljblppihbkdaa.fnExactAllHere
namespace Go.Proofs.Ytmljblppihbkdaa
/-- The row, under a short name, for the claim. -/
theorem fnExactAllHere_holds : Rows.FnExactAllHereSaid := fnExactAllHere.proved
end Go.Proofs.Ytmljblppihbkdaa
