/- The law FnCatches answers true, whatever it is handed; what it is handed reads behind the call as it read before. There are no conditions. -/
import Derived.Test.YtiljcjnnhkidbaaRows
import Derived.Test.YtiljcjnnhkidbaaTm4
import Derived.Test.YtiljcjnnhkidbaaCPCatchesLaw
import Derived.WalkKit
import Derived.ProofKit
import Derived.OpenShut
import Derived.ShutString
import Derived.ChangeOld
import Derived.Below
import Derived.SizedLaws
set_option linter.unusedSimpArgs false
set_option linter.unusedVariables false
namespace Go.Proofs.Ytiljcjnnhkidbaa.fnCatches
open Go.ChangeShapes Go.WideShapes Go.ChangeAt Go.RowKit
set_option maxRecDepth 100000 in
theorem lifted (os : Os) (started : os.Started) (H : Type) (enc : TypeId × Value → H) :
   ReturnsInHanded {} Try.checked os 4 .any (Rows.fnCatchesSpec.pre6 enc Try.prog Try.f4 Rows.fnCatchesRow.domain false) (Rows.fnCatchesSpec.post enc Try.prog Try.f4 false true false false) := by
 refine returnsInHanded_of_change_sized (C := Try.checked) Go.TM.own_ok started (by kernel_rfl) Try.func4
   (ChangeSpec.witness6 (enc := enc) (C := Try.checked) false ⟨#[], #[.slice none 0 0], []⟩ 8 (by kernel_rfl) (by kernel_rfl) (by kernel_rfl) (by kernel_rfl)) ?_
 intro W base args ds gs before hval0 hW hcnd hsz0 _; have hval : ∀ (j : Nat) t v, Try.f4.params[j]? = some t → args[j]? = some v → Value.okWide Try.prog W .any base t v := hval0; have hW' := hW; have hlt := hW'.lt; obtain ⟨p, q, hA0, hV, rfl, hfz, hnd⟩ := hW; have hA : DataW.TrodAll enc Try.prog W 0 (fun _ => true) true Try.f4.params.toList args.toList ds p := hA0; have hA1 := hA; rw [Try.params4] at hA1; obtain ⟨v0, vs0, d0, ds0, p0, q0, hargs, rfl, hp0, h0, r0⟩ := trodAll_cons hA1; obtain ⟨_, rfl, _⟩ := trodAll_nil r0; obtain ⟨rfl, rfl⟩ := trodVars_none hV; refine (Go.TM.law_calls Go.TM.laid_ok Go.TM.k4 (by kernel_rfl) (fun x hx => ⟨(true, ()), Go.TM.catches_law x.1, rfl⟩) (fun j t v ht hv => hval j t v (by rwa [Array.getElem?_toList] at ht) hv) hA (fun x hx => hlt x (List.mem_append_left _ hx))).mono fun e W' ⟨he, bel, hargs'⟩ => ?_
 subst he; exact ⟨_, rfl, _, _, _, [], _, [], hW', trodAll_mk1 (shut_bool Try.underlying4 _), hargs', rfl, bel.frame _, fun h => by cases h⟩
theorem aL {a b : Bool} (h : (a && b) = true) : a = true := by cases a; cases h; rfl
theorem aR {a b : Bool} (h : (a && b) = true) : b = true := by cases a; cases h; exact h
theorem aB {a b : Bool} (h : a = true) (g : b = true) : (a && b) = true := by rw [h, g]; rfl
theorem cf0 : (Rows.fnCatchesRow.wf (OpenSpec.ofChange Rows.fnCatchesSpec) && laidOutB Try.prog && mapsRowed Try.prog && Try.f4.params.all (Try.prog.readableRec ·) && namedTie Try.prog Rows.fnCatchesRow.named Rows.fnCatchesSpec.vars && (Rows.fnCatchesRow.stops == []) && (Try.prog.stops == []) && (Rows.fnCatchesRow.knobs == []) && (Try.prog.stopKnobs == [])) = true := by kernel_rfl
theorem cf1 : ((Rows.fnCatchesRow.inPlace == Try.prog.inPlace 4) && (Rows.fnCatchesRow.unfollowed == Try.prog.unfollowed 4) && (Rows.fnCatchesRow.recurses == Try.prog.recurses 4)) = true := by kernel_rfl
theorem cf2 : ((Rows.fnCatchesRow.named == Try.prog.varsNamed 4) && (Rows.fnCatchesRow.maps == (Try.f4.params.toList ++ Rows.fnCatchesSpec.plain.varTypes Try.prog).any (Try.prog.mapsRec ·))) = true := by kernel_rfl
theorem cf3 : ((Rows.fnCatchesRow.ifaces == (Try.f4.params.toList ++ Rows.fnCatchesSpec.plain.varTypes Try.prog).any (Try.prog.ifacesRec ·)) && (Rows.fnCatchesRow.mapsOut == Try.prog.mapsAmong Try.f4.resultTypes.toList) && (Rows.fnCatchesRow.loops == (Try.f4.params.toList ++ Rows.fnCatchesSpec.plain.varTypes Try.prog).any (Try.prog.loopsFrom ·)) && (Rows.fnCatchesRow.wideKeys == (Try.f4.params.toList ++ Rows.fnCatchesSpec.plain.varTypes Try.prog ++ Try.f4.resultTypes.toList).any (Try.prog.wideKeysFrom ·))) = true := by kernel_rfl
theorem cf4 : (Rows.fnCatchesSpec.vars.all (Try.prog.varReadable ·) && Try.f4.resultTypes.all (fun t => Try.prog.readableRec t && decide (t < Try.prog.types.size))) = true := by kernel_rfl
theorem cf5 : ((Rows.fnCatchesRow.ifacesOut == Try.f4.resultTypes.toList.any (Try.prog.ifacesRec ·)) && (Rows.fnCatchesRow.loopsOut == Try.f4.resultTypes.toList.any (Try.prog.loopsFrom ·)) && (Rows.fnCatchesRow.plainKeys == Try.prog.plainKeys) && Rows.fnCatchesRow.shortTexts.isNone && Try.prog.stopsHeard && Try.prog.mayEnter) = true := by kernel_rfl
theorem cf6 : ((Rows.fnCatchesRow.lifted == Try.prog.liftsFinal) && (Try.prog.make == some Rows.fnCatchesRow.make) && (Rows.fnCatchesRow.kinds == (if Rows.fnCatchesRow.domain.isEmpty then [] else Try.f4.params.toList.map fun t => match Try.prog.underlying t with | some (.int k) => some k | _ => none)) && (Rows.fnCatchesRow.pinned == Rows.fnCatchesRow.pinnedBy) && (Rows.fnCatchesRow.veiled == (Try.f4.params.toList ++ Rows.fnCatchesSpec.plain.varTypes Try.prog ++ Try.f4.resultTypes.toList).any (Try.prog.veiledRec ·)) && Rows.fnCatchesRow.veiledFits Try.prog Try.f4.params.toList (Try.f4.params.toList ++ Rows.fnCatchesSpec.plain.varTypes Try.prog ++ Try.f4.resultTypes.toList)) = true := by kernel_rfl
set_option maxRecDepth 100000 in
theorem closed : joinedFacts Try.pinned.checked.prog 4 Try.f4 Rows.fnCatchesSpec Rows.fnCatchesRow = true := (aB (aB (aB (aB (aB (aB (aB (aB (aB (aB (aB (aB (aB (aB (aB (aB (aB (aB (aB (aB (aB (aB (aB (aB (aB (aB (aB (aB (aB (aB (aB (aL (aL (aL (aL (aL (aL (aL (aL cf0)))))))) (aR (aL (aL (aL (aL (aL (aL (aL cf0))))))))) (aR (aL (aL (aL (aL (aL (aL cf0)))))))) (aR (aL (aL (aL (aL (aL cf0))))))) (aR (aL (aL (aL (aL cf0)))))) (aR (aL (aL (aL cf0))))) (aR (aL (aL cf0)))) (aR (aL cf0))) (aR cf0)) (aL (aL cf1))) (aR (aL cf1))) (aR cf1)) (aL cf2)) (aR cf2)) (aL (aL (aL cf3)))) (aR (aL (aL cf3)))) (aR (aL cf3))) (aR cf3)) (aL cf4)) (aR cf4)) (aL (aL (aL (aL (aL cf5)))))) (aR (aL (aL (aL (aL cf5)))))) (aR (aL (aL (aL cf5))))) (aR (aL (aL cf5)))) (aR (aL cf5))) (aR cf5)) (aL (aL (aL (aL (aL cf6)))))) (aR (aL (aL (aL (aL cf6)))))) (aR (aL (aL (aL cf6))))) (aR (aL (aL cf6)))) (aR (aL cf6))) (aR cf6))
theorem wrap : Try.f4.isWrapper Try.pinned.checked.prog Rows.fnCatchesRow.wrapper Rows.fnCatchesRow.mainSum := by unfold Func.isWrapper; first | (rw [if_pos (by decide +kernel)]; kernel_rfl) | (rw [if_neg (by decide +kernel)]; exact ⟨rfl, rfl⟩)
theorem over : Rows.fnCatchesRow.holds Try.pinned (OpenSpec.ofChange Rows.fnCatchesSpec) :=
 OpenClaim.holds_of_wide 4 Try.f4 rfl rfl rfl rfl rfl rfl rfl ⟨rfl, rfl, rfl, rfl, rfl⟩ rfl rfl rfl rfl rfl (by kernel_rfl) Try.func4 closed
   (of_decide_eq_true (by kernel_rfl)) wrap
   (fun os started H enc _ => lifted os started H enc)
theorem proved : Rows.FnCatchesSaid := over
#print axioms proved
end Go.Proofs.Ytiljcjnnhkidbaa.fnCatches
namespace Go.Proofs.Ytiljcjnnhkidbaa
theorem fnCatches_holds : Rows.FnCatchesSaid := fnCatches.proved
end Go.Proofs.Ytiljcjnnhkidbaa
