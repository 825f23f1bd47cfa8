/- The law FnHears answers true, whatever it is handed; what it is handed reads behind the call as it read before. There are no conditions. -/
import Derived.Test.YtiljcjnnhkidbaaRows
import Derived.Test.YtiljcjnnhkidbaaTm4
import Derived.Test.YtiljcjnnhkidbaaDPRingD
import Derived.WalkKit
import Derived.ProofKit
import Derived.OpenShut
import Derived.ShutString
import Derived.ChangeOld
import Derived.Below
import Derived.SizedLaws
namespace Go.Proofs.Ytiljcjnnhkidbaa.fnHears
open Go.ChangeShapes Go.WideShapes Go.ChangeAt Go.RowKit
set_option maxRecDepth 100000 in
theorem lifted (os : Os) (started : os.Started) (H : Type) (enc : TypeId × Value → H) :
   ReturnsInHanded {} Try.checked os 5 .any (Rows.fnHearsSpec.pre6 enc Try.prog Try.f5 Rows.fnHearsRow.domain false) (Rows.fnHearsSpec.post enc Try.prog Try.f5 false true false false) := by
 refine returnsInHanded_of_change_sized (C := Try.checked) Go.TM.Q5 started (by kernel_rfl) Try.func5
   (ChangeSpec.witness6 (enc := enc) (C := Try.checked) false ⟨#[], #[.slice none 0 0], []⟩ 8 (by kernel_rfl) (by kernel_rfl) (by kernel_rfl) (by kernel_rfl)) ?_
 intro W base args ds gs before Xn hW agF agG _; have oX : ∀ (j : Nat) t v, Try.f5.params[j]? = some t → args[j]? = some v → Value.okWide Try.prog W .any base t v := Xn; have hW' := hW; have bP := hW'.lt; obtain ⟨p, q, Gi, hV, rfl, hfz, Gj⟩ := hW; have hA : DataW.TrodAll enc Try.prog W 0 (fun _ => true) true Try.f5.params.toList args.toList ds p := Gi; have T2 := hA; rw [Try.params5] at T2; obtain ⟨v0, vs0, d0, ds0, p0, q0, AI, rfl, hp0, h0, r0⟩ := trodAll_cons T2; obtain ⟨_, rfl, _⟩ := trodAll_nil r0; obtain ⟨rfl, rfl⟩ := trodVars_none hV; refine (Go.TM.Jr Go.TM.N7 Go.TM.k5 (by kernel_rfl) (fun x hx => ⟨(true, ()), Go.TM.J3 x.1, rfl⟩) (fun j t v ht hv => oX j t v (by rwa [Array.getElem?_toList] at ht) hv) hA (fun x hx => bP x (List.mem_append_left _ hx))).mono fun e W' ⟨he, bel, SH⟩ => ?_
 subst he; exact ⟨_, rfl, _, _, _, [], _, [], hW', trodAll_mk1 (shut_bool Try.underlying4 _), SH, rfl, bel.frame _, fun h => by cases h⟩
theorem aL {a b : Bool} (h : (a && b) = true) : a = true := by cases a; cases h; rfl
theorem aR {a b : Bool} (h : (a && b) = true) : b = true := by cases a; cases h; exact h
theorem aB {a b : Bool} (h : a = true) (g : b = true) : (a && b) = true := by rw [h, g]; rfl
theorem OM : (Rows.fnHearsRow.wf (OpenSpec.ofChange Rows.fnHearsSpec) && laidOutB Try.prog && mapsRowed Try.prog && Try.f5.params.all (Try.prog.readableRec ·) && namedTie Try.prog Rows.fnHearsRow.named Rows.fnHearsSpec.vars && (Rows.fnHearsRow.stops == []) && (Try.prog.stops == []) && (Rows.fnHearsRow.knobs == []) && (Try.prog.stopKnobs == [])) = true := by kernel_rfl
theorem cf1 : ((Rows.fnHearsRow.inPlace == Try.prog.inPlace 5) && (Rows.fnHearsRow.unfollowed == Try.prog.unfollowed 5) && (Rows.fnHearsRow.recurses == Try.prog.recurses 5)) = true := by kernel_rfl
theorem cf2 : ((Rows.fnHearsRow.named == Try.prog.varsNamed 5) && (Rows.fnHearsRow.maps == (Try.f5.params.toList ++ Rows.fnHearsSpec.plain.varTypes Try.prog).any (Try.prog.mapsRec ·))) = true := by kernel_rfl
theorem X3 : ((Rows.fnHearsRow.ifaces == (Try.f5.params.toList ++ Rows.fnHearsSpec.plain.varTypes Try.prog).any (Try.prog.ifacesRec ·)) && (Rows.fnHearsRow.mapsOut == Try.prog.mapsAmong Try.f5.resultTypes.toList) && (Rows.fnHearsRow.loops == (Try.f5.params.toList ++ Rows.fnHearsSpec.plain.varTypes Try.prog).any (Try.prog.loopsFrom ·)) && (Rows.fnHearsRow.wideKeys == (Try.f5.params.toList ++ Rows.fnHearsSpec.plain.varTypes Try.prog ++ Try.f5.resultTypes.toList).any (Try.prog.wideKeysFrom ·))) = true := by kernel_rfl
theorem cf4 : (Rows.fnHearsSpec.vars.all (Try.prog.varReadable ·) && Try.f5.resultTypes.all (fun t => Try.prog.readableRec t && decide (t < Try.prog.types.size))) = true := by kernel_rfl
theorem Tv : ((Rows.fnHearsRow.ifacesOut == Try.f5.resultTypes.toList.any (Try.prog.ifacesRec ·)) && (Rows.fnHearsRow.loopsOut == Try.f5.resultTypes.toList.any (Try.prog.loopsFrom ·)) && (Rows.fnHearsRow.plainKeys == Try.prog.plainKeys) && Rows.fnHearsRow.shortTexts.isNone && Try.prog.stopsHeard && Try.prog.mayEnter) = true := by kernel_rfl
theorem Tw : ((Rows.fnHearsRow.lifted == Try.prog.liftsFinal) && (Try.prog.make == some Rows.fnHearsRow.make) && (Rows.fnHearsRow.kinds == (if Rows.fnHearsRow.domain.isEmpty then [] else Try.f5.params.toList.map fun t => match Try.prog.underlying t with | some (.int k) => some k | _ => none)) && (Rows.fnHearsRow.pinned == Rows.fnHearsRow.pinnedBy) && (Rows.fnHearsRow.veiled == (Try.f5.params.toList ++ Rows.fnHearsSpec.plain.varTypes Try.prog ++ Try.f5.resultTypes.toList).any (Try.prog.veiledRec ·)) && Rows.fnHearsRow.veiledFits Try.prog Try.f5.params.toList (Try.f5.params.toList ++ Rows.fnHearsSpec.plain.varTypes Try.prog ++ Try.f5.resultTypes.toList)) = true := by kernel_rfl
set_option maxRecDepth 100000 in
theorem closed : joinedFacts Try.pinned.checked.prog 5 Try.f5 Rows.fnHearsSpec Rows.fnHearsRow = true := (aB (aB (aB (aB (aB (aB (aB (aB (aB (aB (aB (aB (aB (aB (aB (aB (aB (aB (aB (aB (aB (aB (aB (aB (aB (aB (aB (aB (aB (aB (aB (aL (aL (aL (aL (aL (aL (aL (aL OM)))))))) (aR (aL (aL (aL (aL (aL (aL (aL OM))))))))) (aR (aL (aL (aL (aL (aL (aL OM)))))))) (aR (aL (aL (aL (aL (aL OM))))))) (aR (aL (aL (aL (aL OM)))))) (aR (aL (aL (aL OM))))) (aR (aL (aL OM)))) (aR (aL OM))) (aR OM)) (aL (aL cf1))) (aR (aL cf1))) (aR cf1)) (aL cf2)) (aR cf2)) (aL (aL (aL X3)))) (aR (aL (aL X3)))) (aR (aL X3))) (aR X3)) (aL cf4)) (aR cf4)) (aL (aL (aL (aL (aL Tv)))))) (aR (aL (aL (aL (aL Tv)))))) (aR (aL (aL (aL Tv))))) (aR (aL (aL Tv)))) (aR (aL Tv))) (aR Tv)) (aL (aL (aL (aL (aL Tw)))))) (aR (aL (aL (aL (aL Tw)))))) (aR (aL (aL (aL Tw))))) (aR (aL (aL Tw)))) (aR (aL Tw))) (aR Tw))
theorem wrap : Try.f5.isWrapper Try.pinned.checked.prog Rows.fnHearsRow.wrapper Rows.fnHearsRow.mainSum := by unfold Func.isWrapper; first | (rw [if_pos (by decide +kernel)]; kernel_rfl) | (rw [if_neg (by decide +kernel)]; exact ⟨rfl, rfl⟩)
theorem abq : Rows.fnHearsRow.holds Try.pinned (OpenSpec.ofChange Rows.fnHearsSpec) :=
 OpenClaim.holds_of_wide 5 Try.f5 rfl rfl rfl rfl rfl rfl rfl ⟨rfl, rfl, rfl, rfl, rfl⟩ rfl rfl rfl rfl rfl (by kernel_rfl) Try.func5 closed
   (of_decide_eq_true (by kernel_rfl)) wrap
   (fun os started H enc _ => lifted os started H enc)
theorem proved : Rows.FnHearsSaid := abq
#print axioms proved
end Go.Proofs.Ytiljcjnnhkidbaa.fnHears
namespace Go.Proofs.Ytiljcjnnhkidbaa
theorem fnHears_holds : Rows.FnHearsSaid := fnHears.proved
end Go.Proofs.Ytiljcjnnhkidbaa
