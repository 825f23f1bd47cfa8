/- The law FnSays answers true, whatever it is handed; what it is handed reads behind the call as it read before. There are no conditions. -/
import Derived.Test.YtiljcjnnhkidbaaRows
import Derived.Test.YtiljcjnnhkidbaaTm4
import Derived.Test.YtiljcjnnhkidbaaBPSaysLaw
import Derived.WalkKit
import Derived.ProofKit
import Derived.OpenShut
import Derived.ShutString
import Derived.ChangeOld
import Derived.Below
import Derived.SizedLaws
set_option linter.unusedSimpArgs false
set_option linter.unusedVariables false
namespace Go.Proofs.Ytiljcjnnhkidbaa.fnSays
open Go.ChangeShapes Go.WideShapes Go.ChangeAt Go.RowKit
set_option maxRecDepth 100000 in
theorem lifted (os : Os) (started : os.Started) (H : Type) (enc : TypeId × Value → H) :
   ReturnsInHanded {} Try.checked os 3 .any (Rows.fnSaysSpec.pre6 enc Try.prog Try.f3 Rows.fnSaysRow.domain false) (Rows.fnSaysSpec.post enc Try.prog Try.f3 false true false false) := by
 refine returnsInHanded_of_change_sized (C := Try.checked) Go.TM.own_ok started (by kernel_rfl) Try.func3
   (ChangeSpec.witness6 (enc := enc) (C := Try.checked) false ⟨#[], #[.slice none 0 0], []⟩ 8 (by kernel_rfl) (by kernel_rfl) (by kernel_rfl) (by kernel_rfl)) ?_
 intro W base args ds gs before hval0 hW hcnd hsz0 _; have hval : ∀ (j : Nat) t v, Try.f3.params[j]? = some t → args[j]? = some v → Value.okWide Try.prog W .any base t v := hval0; have hW' := hW; have hlt := hW'.lt; obtain ⟨p, q, hA0, hV, rfl, hfz, hnd⟩ := hW; have hA : DataW.TrodAll enc Try.prog W 0 (fun _ => true) true Try.f3.params.toList args.toList ds p := hA0; have hA1 := hA; rw [Try.params3] at hA1; obtain ⟨v0, vs0, d0, ds0, p0, q0, hargs, rfl, hp0, h0, r0⟩ := trodAll_cons hA1; obtain ⟨_, rfl, _⟩ := trodAll_nil r0; obtain ⟨rfl, rfl⟩ := trodVars_none hV; refine (Go.TM.law_calls Go.TM.laid_ok Go.TM.k3 (by kernel_rfl) (fun x hx => ⟨(true, ()), Go.TM.says_law x.1, rfl⟩) (fun j t v ht hv => hval j t v (by rwa [Array.getElem?_toList] at ht) hv) hA (fun x hx => hlt x (List.mem_append_left _ hx))).mono fun e W' ⟨he, bel, hargs'⟩ => ?_
 subst he; exact ⟨_, rfl, _, _, _, [], _, [], hW', trodAll_mk1 (shut_bool Try.underlying4 _), hargs', rfl, bel.frame _, fun h => by cases h⟩
theorem aL {a b : Bool} (h : (a && b) = true) : a = true := by cases a; cases h; rfl
theorem aR {a b : Bool} (h : (a && b) = true) : b = true := by cases a; cases h; exact h
theorem aB {a b : Bool} (h : a = true) (g : b = true) : (a && b) = true := by rw [h, g]; rfl
theorem cf0 : (Rows.fnSaysRow.wf (OpenSpec.ofChange Rows.fnSaysSpec) && laidOutB Try.prog && mapsRowed Try.prog && Try.f3.params.all (Try.prog.readableRec ·) && namedTie Try.prog Rows.fnSaysRow.named Rows.fnSaysSpec.vars && (Rows.fnSaysRow.stops == []) && (Try.prog.stops == []) && (Rows.fnSaysRow.knobs == []) && (Try.prog.stopKnobs == [])) = true := by kernel_rfl
theorem cf1 : ((Rows.fnSaysRow.inPlace == Try.prog.inPlace 3) && (Rows.fnSaysRow.unfollowed == Try.prog.unfollowed 3) && (Rows.fnSaysRow.recurses == Try.prog.recurses 3)) = true := by kernel_rfl
theorem cf2 : ((Rows.fnSaysRow.named == Try.prog.varsNamed 3) && (Rows.fnSaysRow.maps == (Try.f3.params.toList ++ Rows.fnSaysSpec.plain.varTypes Try.prog).any (Try.prog.mapsRec ·))) = true := by kernel_rfl
theorem cf3 : ((Rows.fnSaysRow.ifaces == (Try.f3.params.toList ++ Rows.fnSaysSpec.plain.varTypes Try.prog).any (Try.prog.ifacesRec ·)) && (Rows.fnSaysRow.mapsOut == Try.prog.mapsAmong Try.f3.resultTypes.toList) && (Rows.fnSaysRow.loops == (Try.f3.params.toList ++ Rows.fnSaysSpec.plain.varTypes Try.prog).any (Try.prog.loopsFrom ·)) && (Rows.fnSaysRow.wideKeys == (Try.f3.params.toList ++ Rows.fnSaysSpec.plain.varTypes Try.prog ++ Try.f3.resultTypes.toList).any (Try.prog.wideKeysFrom ·))) = true := by kernel_rfl
theorem cf4 : (Rows.fnSaysSpec.vars.all (Try.prog.varReadable ·) && Try.f3.resultTypes.all (fun t => Try.prog.readableRec t && decide (t < Try.prog.types.size))) = true := by kernel_rfl
theorem cf5 : ((Rows.fnSaysRow.ifacesOut == Try.f3.resultTypes.toList.any (Try.prog.ifacesRec ·)) && (Rows.fnSaysRow.loopsOut == Try.f3.resultTypes.toList.any (Try.prog.loopsFrom ·)) && (Rows.fnSaysRow.plainKeys == Try.prog.plainKeys) && Rows.fnSaysRow.shortTexts.isNone && Try.prog.stopsHeard && Try.prog.mayEnter) = true := by kernel_rfl
theorem cf6 : ((Rows.fnSaysRow.lifted == Try.prog.liftsFinal) && (Try.prog.make == some Rows.fnSaysRow.make) && (Rows.fnSaysRow.kinds == (if Rows.fnSaysRow.domain.isEmpty then [] else Try.f3.params.toList.map fun t => match Try.prog.underlying t with | some (.int k) => some k | _ => none)) && (Rows.fnSaysRow.pinned == Rows.fnSaysRow.pinnedBy) && (Rows.fnSaysRow.veiled == (Try.f3.params.toList ++ Rows.fnSaysSpec.plain.varTypes Try.prog ++ Try.f3.resultTypes.toList).any (Try.prog.veiledRec ·)) && Rows.fnSaysRow.veiledFits Try.prog Try.f3.params.toList (Try.f3.params.toList ++ Rows.fnSaysSpec.plain.varTypes Try.prog ++ Try.f3.resultTypes.toList)) = true := by kernel_rfl
set_option maxRecDepth 100000 in
theorem closed : joinedFacts Try.pinned.checked.prog 3 Try.f3 Rows.fnSaysSpec Rows.fnSaysRow = true := (aB (aB (aB (aB (aB (aB (aB (aB (aB (aB (aB (aB (aB (aB (aB (aB (aB (aB (aB (aB (aB (aB (aB (aB (aB (aB (aB (aB (aB (aB (aB (aL (aL (aL (aL (aL (aL (aL (aL cf0)))))))) (aR (aL (aL (aL (aL (aL (aL (aL cf0))))))))) (aR (aL (aL (aL (aL (aL (aL cf0)))))))) (aR (aL (aL (aL (aL (aL cf0))))))) (aR (aL (aL (aL (aL cf0)))))) (aR (aL (aL (aL cf0))))) (aR (aL (aL cf0)))) (aR (aL cf0))) (aR cf0)) (aL (aL cf1))) (aR (aL cf1))) (aR cf1)) (aL cf2)) (aR cf2)) (aL (aL (aL cf3)))) (aR (aL (aL cf3)))) (aR (aL cf3))) (aR cf3)) (aL cf4)) (aR cf4)) (aL (aL (aL (aL (aL cf5)))))) (aR (aL (aL (aL (aL cf5)))))) (aR (aL (aL (aL cf5))))) (aR (aL (aL cf5)))) (aR (aL cf5))) (aR cf5)) (aL (aL (aL (aL (aL cf6)))))) (aR (aL (aL (aL (aL cf6)))))) (aR (aL (aL (aL cf6))))) (aR (aL (aL cf6)))) (aR (aL cf6))) (aR cf6))
theorem wrap : Try.f3.isWrapper Try.pinned.checked.prog Rows.fnSaysRow.wrapper Rows.fnSaysRow.mainSum := by unfold Func.isWrapper; first | (rw [if_pos (by decide +kernel)]; kernel_rfl) | (rw [if_neg (by decide +kernel)]; exact ⟨rfl, rfl⟩)
theorem over : Rows.fnSaysRow.holds Try.pinned (OpenSpec.ofChange Rows.fnSaysSpec) :=
 OpenClaim.holds_of_wide 3 Try.f3 rfl rfl rfl rfl rfl rfl rfl ⟨rfl, rfl, rfl, rfl, rfl⟩ rfl rfl rfl rfl rfl (by kernel_rfl) Try.func3 closed
   (of_decide_eq_true (by kernel_rfl)) wrap
   (fun os started H enc _ => lifted os started H enc)
theorem proved : Rows.FnSaysSaid := over
#print axioms proved
end Go.Proofs.Ytiljcjnnhkidbaa.fnSays
namespace Go.Proofs.Ytiljcjnnhkidbaa
theorem fnSays_holds : Rows.FnSaysSaid := fnSays.proved
end Go.Proofs.Ytiljcjnnhkidbaa
