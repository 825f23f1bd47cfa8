/- The law FnWorldNew answers true, whatever it is handed; what it is handed reads behind the call as it read before. There are no conditions. -/
import Derived.Test.YtlgnmloddedbaaaGreatRows
import Derived.Test.YtlgnmloddedbaaaGreatTm4
import Derived.Test.YtlgnmloddedbaaaGreatAPWorldNewLaw
import Derived.WalkKit
import Derived.ProofKit
import Derived.OpenShut
import Derived.ShutString
import Derived.ChangeOld
import Derived.Below
import Derived.SizedLaws
set_option linter.unusedSimpArgs false
set_option linter.unusedVariables false
namespace Go.Proofs.YtlgnmloddedbaaaGreat.fnWorldNew
open Go.ChangeShapes Go.WideShapes Go.ChangeAt Go.RowKit
set_option maxRecDepth 100000 in
theorem lifted (os : Os) (started : os.Started) (H : Type) (enc : TypeId × Value → H) :
   ReturnsInHanded {} Tryz.checked os 3 .any (Rows.fnWorldNewSpec.pre6 enc Tryz.prog Tryz.f3 Rows.fnWorldNewRow.domain false) (Rows.fnWorldNewSpec.post enc Tryz.prog Tryz.f3 false true false false) := by
 refine returnsInHanded_of_change_sized (C := Tryz.checked) Go.TM.own_ok started (by kernel_rfl) Tryz.func3
   (ChangeSpec.witness6 (enc := enc) (C := Tryz.checked) false ⟨#[], #[.slice none 0 0], []⟩ 8 (by kernel_rfl) (by kernel_rfl) (by kernel_rfl) (by kernel_rfl)) ?_
 intro W base args ds gs before hval0 hW hcnd hsz0 _; have hval : ∀ (j : Nat) t v, Tryz.f3.params[j]? = some t → args[j]? = some v → Value.okWide Tryz.prog W .any base t v := hval0; have hW' := hW; have hlt := hW'.lt; obtain ⟨p, q, hA0, hV, rfl, hfz, hnd⟩ := hW; have hA : DataW.TrodAll enc Tryz.prog W 0 (fun _ => true) true Tryz.f3.params.toList args.toList ds p := hA0; have hA1 := hA; rw [Tryz.params3] at hA1; obtain ⟨v0, vs0, d0, ds0, p0, q0, hargs, rfl, hp0, h0, r0⟩ := trodAll_cons hA1; obtain ⟨_, rfl, _⟩ := trodAll_nil r0; obtain ⟨rfl, rfl⟩ := trodVars_none hV; refine (Go.TM.law_calls Go.TM.laid_ok Go.TM.k3 (by kernel_rfl) (fun x hx => ⟨(true, ()), Go.TM.worldnew_law x.1, rfl⟩) (fun j t v ht hv => hval j t v (by rwa [Array.getElem?_toList] at ht) hv) hA (fun x hx => hlt x (List.mem_append_left _ hx))).mono fun e W' ⟨he, bel, hargs'⟩ => ?_
 subst he; exact ⟨_, rfl, _, _, _, [], _, [], hW', trodAll_mk1 (shut_bool Tryz.underlying4 _), hargs', rfl, bel.frame _, fun h => by cases h⟩
theorem aL {a b : Bool} (h : (a && b) = true) : a = true := by cases a; cases h; rfl
theorem aR {a b : Bool} (h : (a && b) = true) : b = true := by cases a; cases h; exact h
theorem aB {a b : Bool} (h : a = true) (g : b = true) : (a && b) = true := by rw [h, g]; rfl
theorem cf0 : (Rows.fnWorldNewRow.wf (OpenSpec.ofChange Rows.fnWorldNewSpec) && laidOutB Tryz.prog && mapsRowed Tryz.prog && Tryz.f3.params.all (Tryz.prog.readableRec ·) && namedTie Tryz.prog Rows.fnWorldNewRow.named Rows.fnWorldNewSpec.vars && (Rows.fnWorldNewRow.stops == []) && (Tryz.prog.stops == []) && (Rows.fnWorldNewRow.knobs == []) && (Tryz.prog.stopKnobs == [])) = true := by kernel_rfl
theorem cf1 : ((Rows.fnWorldNewRow.inPlace == Tryz.prog.inPlace 3) && (Rows.fnWorldNewRow.unfollowed == Tryz.prog.unfollowed 3) && (Rows.fnWorldNewRow.recurses == Tryz.prog.recurses 3)) = true := by kernel_rfl
theorem cf2 : ((Rows.fnWorldNewRow.named == Tryz.prog.varsNamed 3) && (Rows.fnWorldNewRow.maps == (Tryz.f3.params.toList ++ Rows.fnWorldNewSpec.plain.varTypes Tryz.prog).any (Tryz.prog.mapsRec ·))) = true := by kernel_rfl
theorem cf3 : ((Rows.fnWorldNewRow.ifaces == (Tryz.f3.params.toList ++ Rows.fnWorldNewSpec.plain.varTypes Tryz.prog).any (Tryz.prog.ifacesRec ·)) && (Rows.fnWorldNewRow.mapsOut == Tryz.prog.mapsAmong Tryz.f3.resultTypes.toList) && (Rows.fnWorldNewRow.loops == (Tryz.f3.params.toList ++ Rows.fnWorldNewSpec.plain.varTypes Tryz.prog).any (Tryz.prog.loopsFrom ·)) && (Rows.fnWorldNewRow.wideKeys == (Tryz.f3.params.toList ++ Rows.fnWorldNewSpec.plain.varTypes Tryz.prog ++ Tryz.f3.resultTypes.toList).any (Tryz.prog.wideKeysFrom ·))) = true := by kernel_rfl
theorem cf4 : (Rows.fnWorldNewSpec.vars.all (Tryz.prog.varReadable ·) && Tryz.f3.resultTypes.all (fun t => Tryz.prog.readableRec t && decide (t < Tryz.prog.types.size))) = true := by kernel_rfl
theorem cf5 : ((Rows.fnWorldNewRow.ifacesOut == Tryz.f3.resultTypes.toList.any (Tryz.prog.ifacesRec ·)) && (Rows.fnWorldNewRow.loopsOut == Tryz.f3.resultTypes.toList.any (Tryz.prog.loopsFrom ·)) && (Rows.fnWorldNewRow.plainKeys == Tryz.prog.plainKeys) && Rows.fnWorldNewRow.shortTexts.isNone && Tryz.prog.stopsHeard && Tryz.prog.mayEnter) = true := by kernel_rfl
theorem cf6 : ((Rows.fnWorldNewRow.lifted == Tryz.prog.liftsFinal) && (Tryz.prog.make == some Rows.fnWorldNewRow.make) && (Rows.fnWorldNewRow.kinds == (if Rows.fnWorldNewRow.domain.isEmpty then [] else Tryz.f3.params.toList.map fun t => match Tryz.prog.underlying t with | some (.int k) => some k | _ => none)) && (Rows.fnWorldNewRow.pinned == Rows.fnWorldNewRow.pinnedBy) && (Rows.fnWorldNewRow.veiled == (Tryz.f3.params.toList ++ Rows.fnWorldNewSpec.plain.varTypes Tryz.prog ++ Tryz.f3.resultTypes.toList).any (Tryz.prog.veiledRec ·)) && Rows.fnWorldNewRow.veiledFits Tryz.prog Tryz.f3.params.toList (Tryz.f3.params.toList ++ Rows.fnWorldNewSpec.plain.varTypes Tryz.prog ++ Tryz.f3.resultTypes.toList)) = true := by kernel_rfl
set_option maxRecDepth 100000 in
theorem closed : joinedFacts Tryz.pinned.checked.prog 3 Tryz.f3 Rows.fnWorldNewSpec Rows.fnWorldNewRow = true := (aB (aB (aB (aB (aB (aB (aB (aB (aB (aB (aB (aB (aB (aB (aB (aB (aB (aB (aB (aB (aB (aB (aB (aB (aB (aB (aB (aB (aB (aB (aB (aL (aL (aL (aL (aL (aL (aL (aL cf0)))))))) (aR (aL (aL (aL (aL (aL (aL (aL cf0))))))))) (aR (aL (aL (aL (aL (aL (aL cf0)))))))) (aR (aL (aL (aL (aL (aL cf0))))))) (aR (aL (aL (aL (aL cf0)))))) (aR (aL (aL (aL cf0))))) (aR (aL (aL cf0)))) (aR (aL cf0))) (aR cf0)) (aL (aL cf1))) (aR (aL cf1))) (aR cf1)) (aL cf2)) (aR cf2)) (aL (aL (aL cf3)))) (aR (aL (aL cf3)))) (aR (aL cf3))) (aR cf3)) (aL cf4)) (aR cf4)) (aL (aL (aL (aL (aL cf5)))))) (aR (aL (aL (aL (aL cf5)))))) (aR (aL (aL (aL cf5))))) (aR (aL (aL cf5)))) (aR (aL cf5))) (aR cf5)) (aL (aL (aL (aL (aL cf6)))))) (aR (aL (aL (aL (aL cf6)))))) (aR (aL (aL (aL cf6))))) (aR (aL (aL cf6)))) (aR (aL cf6))) (aR cf6))
theorem wrap : Tryz.f3.isWrapper Tryz.pinned.checked.prog Rows.fnWorldNewRow.wrapper Rows.fnWorldNewRow.mainSum := by unfold Func.isWrapper; first | (rw [if_pos (by decide +kernel)]; kernel_rfl) | (rw [if_neg (by decide +kernel)]; exact ⟨rfl, rfl⟩)
theorem over : Rows.fnWorldNewRow.holds Tryz.pinned (OpenSpec.ofChange Rows.fnWorldNewSpec) :=
 OpenClaim.holds_of_wide 3 Tryz.f3 rfl rfl rfl rfl rfl rfl rfl ⟨rfl, rfl, rfl, rfl, rfl⟩ rfl rfl rfl rfl rfl (by kernel_rfl) Tryz.func3 closed
   (of_decide_eq_true (by kernel_rfl)) wrap
   (fun os started H enc _ => lifted os started H enc)
theorem proved : Rows.FnWorldNewSaid := over
#print axioms proved
end Go.Proofs.YtlgnmloddedbaaaGreat.fnWorldNew
namespace Go.Proofs.YtlgnmloddedbaaaGreat
theorem fnWorldNew_holds : Rows.FnWorldNewSaid := fnWorldNew.proved
end Go.Proofs.YtlgnmloddedbaaaGreat
