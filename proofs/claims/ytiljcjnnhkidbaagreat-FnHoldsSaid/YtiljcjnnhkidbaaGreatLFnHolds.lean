/- The law FnHolds answers true, whatever it is handed; what it is handed reads behind the call as it read before. There are no conditions. -/
import Derived.Test.YtiljcjnnhkidbaaGreatRows
import Derived.Test.YtiljcjnnhkidbaaGreatTm4
import Derived.Test.YtiljcjnnhkidbaaGreatCPRingD
import Derived.WalkKit
import Derived.ProofKit
import Derived.OpenShut
import Derived.ShutString
import Derived.ChangeOld
import Derived.Below
import Derived.SizedLaws
namespace Go.Proofs.YtiljcjnnhkidbaaGreat.fnHolds
open Go.ChangeShapes Go.WideShapes Go.ChangeAt Go.RowKit
set_option maxRecDepth 100000 in
theorem lifted (os : Os) (started : os.Started) (H : Type) (enc : TypeId × Value → H) :
   ReturnsInHanded {} Tryz.checked os 7 .any (Rows.fnHoldsSpec.pre6 enc Tryz.prog Tryz.f7 Rows.fnHoldsRow.domain false) (Rows.fnHoldsSpec.post enc Tryz.prog Tryz.f7 false true false false) := by
 refine returnsInHanded_of_change_sized (C := Tryz.checked) Go.TM.RN started (by kernel_rfl) Tryz.func7
   (ChangeSpec.witness6 (enc := enc) (C := Tryz.checked) false ⟨#[], #[.slice none 0 0], []⟩ 8 (by kernel_rfl) (by kernel_rfl) (by kernel_rfl) (by kernel_rfl)) ?_
 intro W base args ds gs before X0 hW agU agV _; have oV : ∀ (j : Nat) t v, Tryz.f7.params[j]? = some t → args[j]? = some v → Value.okWide Tryz.prog W .any base t v := X0; have hW' := hW; have bQ := hW'.lt; obtain ⟨p, q, GI, hV, rfl, hfz, GJ⟩ := hW; have hA : DataW.TrodAll enc Tryz.prog W 0 (fun _ => true) true Tryz.f7.params.toList args.toList ds p := GI; have Vn := hA; rw [Tryz.params7] at Vn; obtain ⟨v0, vs0, d0, ds0, p0, q0, AR, rfl, hp0, h0, r0⟩ := trodAll_cons Vn; obtain ⟨_, rfl, _⟩ := trodAll_nil r0; obtain ⟨rfl, rfl⟩ := trodVars_none hV; refine (Go.TM.JP Go.TM.OU Go.TM.k7 (by kernel_rfl) (fun x hx => ⟨(true, ()), Go.TM.KO x.1, rfl⟩) (fun j t v ht hv => oV j t v (by rwa [Array.getElem?_toList] at ht) hv) hA (fun x hx => bQ x (List.mem_append_left _ hx))).mono fun e W' ⟨he, bel, Ui⟩ => ?_
 subst he; exact ⟨_, rfl, _, _, _, [], _, [], hW', trodAll_mk1 (shut_bool Tryz.underlying4 _), Ui, rfl, bel.frame _, fun h => by cases h⟩
theorem aL {a b : Bool} (h : (a && b) = true) : a = true := by cases a; cases h; rfl
theorem aR {a b : Bool} (h : (a && b) = true) : b = true := by cases a; cases h; exact h
theorem aB {a b : Bool} (h : a = true) (g : b = true) : (a && b) = true := by rw [h, g]; rfl
theorem PB : (Rows.fnHoldsRow.wf (OpenSpec.ofChange Rows.fnHoldsSpec) && laidOutB Tryz.prog && mapsRowed Tryz.prog && Tryz.f7.params.all (Tryz.prog.readableRec ·) && namedTie Tryz.prog Rows.fnHoldsRow.named Rows.fnHoldsSpec.vars && (Rows.fnHoldsRow.stops == []) && (Tryz.prog.stops == []) && (Rows.fnHoldsRow.knobs == []) && (Tryz.prog.stopKnobs == [])) = true := by kernel_rfl
theorem cf1 : ((Rows.fnHoldsRow.inPlace == Tryz.prog.inPlace 7) && (Rows.fnHoldsRow.unfollowed == Tryz.prog.unfollowed 7) && (Rows.fnHoldsRow.recurses == Tryz.prog.recurses 7)) = true := by kernel_rfl
theorem cf2 : ((Rows.fnHoldsRow.named == Tryz.prog.varsNamed 7) && (Rows.fnHoldsRow.maps == (Tryz.f7.params.toList ++ Rows.fnHoldsSpec.plain.varTypes Tryz.prog).any (Tryz.prog.mapsRec ·))) = true := by kernel_rfl
theorem Yx : ((Rows.fnHoldsRow.ifaces == (Tryz.f7.params.toList ++ Rows.fnHoldsSpec.plain.varTypes Tryz.prog).any (Tryz.prog.ifacesRec ·)) && (Rows.fnHoldsRow.mapsOut == Tryz.prog.mapsAmong Tryz.f7.resultTypes.toList) && (Rows.fnHoldsRow.loops == (Tryz.f7.params.toList ++ Rows.fnHoldsSpec.plain.varTypes Tryz.prog).any (Tryz.prog.loopsFrom ·)) && (Rows.fnHoldsRow.wideKeys == (Tryz.f7.params.toList ++ Rows.fnHoldsSpec.plain.varTypes Tryz.prog ++ Tryz.f7.resultTypes.toList).any (Tryz.prog.wideKeysFrom ·))) = true := by kernel_rfl
theorem cf4 : (Rows.fnHoldsSpec.vars.all (Tryz.prog.varReadable ·) && Tryz.f7.resultTypes.all (fun t => Tryz.prog.readableRec t && decide (t < Tryz.prog.types.size))) = true := by kernel_rfl
theorem UK : ((Rows.fnHoldsRow.ifacesOut == Tryz.f7.resultTypes.toList.any (Tryz.prog.ifacesRec ·)) && (Rows.fnHoldsRow.loopsOut == Tryz.f7.resultTypes.toList.any (Tryz.prog.loopsFrom ·)) && (Rows.fnHoldsRow.plainKeys == Tryz.prog.plainKeys) && Rows.fnHoldsRow.shortTexts.isNone && Tryz.prog.stopsHeard && Tryz.prog.mayEnter) = true := by kernel_rfl
theorem UL : ((Rows.fnHoldsRow.lifted == Tryz.prog.liftsFinal) && (Tryz.prog.make == some Rows.fnHoldsRow.make) && (Rows.fnHoldsRow.kinds == (if Rows.fnHoldsRow.domain.isEmpty then [] else Tryz.f7.params.toList.map fun t => match Tryz.prog.underlying t with | some (.int k) => some k | _ => none)) && (Rows.fnHoldsRow.pinned == Rows.fnHoldsRow.pinnedBy) && (Rows.fnHoldsRow.veiled == (Tryz.f7.params.toList ++ Rows.fnHoldsSpec.plain.varTypes Tryz.prog ++ Tryz.f7.resultTypes.toList).any (Tryz.prog.veiledRec ·)) && Rows.fnHoldsRow.veiledFits Tryz.prog Tryz.f7.params.toList (Tryz.f7.params.toList ++ Rows.fnHoldsSpec.plain.varTypes Tryz.prog ++ Tryz.f7.resultTypes.toList)) = true := by kernel_rfl
set_option maxRecDepth 100000 in
theorem closed : joinedFacts Tryz.pinned.checked.prog 7 Tryz.f7 Rows.fnHoldsSpec Rows.fnHoldsRow = true := (aB (aB (aB (aB (aB (aB (aB (aB (aB (aB (aB (aB (aB (aB (aB (aB (aB (aB (aB (aB (aB (aB (aB (aB (aB (aB (aB (aB (aB (aB (aB (aL (aL (aL (aL (aL (aL (aL (aL PB)))))))) (aR (aL (aL (aL (aL (aL (aL (aL PB))))))))) (aR (aL (aL (aL (aL (aL (aL PB)))))))) (aR (aL (aL (aL (aL (aL PB))))))) (aR (aL (aL (aL (aL PB)))))) (aR (aL (aL (aL PB))))) (aR (aL (aL PB)))) (aR (aL PB))) (aR PB)) (aL (aL cf1))) (aR (aL cf1))) (aR cf1)) (aL cf2)) (aR cf2)) (aL (aL (aL Yx)))) (aR (aL (aL Yx)))) (aR (aL Yx))) (aR Yx)) (aL cf4)) (aR cf4)) (aL (aL (aL (aL (aL UK)))))) (aR (aL (aL (aL (aL UK)))))) (aR (aL (aL (aL UK))))) (aR (aL (aL UK)))) (aR (aL UK))) (aR UK)) (aL (aL (aL (aL (aL UL)))))) (aR (aL (aL (aL (aL UL)))))) (aR (aL (aL (aL UL))))) (aR (aL (aL UL)))) (aR (aL UL))) (aR UL))
theorem wrap : Tryz.f7.isWrapper Tryz.pinned.checked.prog Rows.fnHoldsRow.wrapper Rows.fnHoldsRow.mainSum := by unfold Func.isWrapper; first | (rw [if_pos (by decide +kernel)]; kernel_rfl) | (rw [if_neg (by decide +kernel)]; exact ⟨rfl, rfl⟩)
theorem ac2 : Rows.fnHoldsRow.holds Tryz.pinned (OpenSpec.ofChange Rows.fnHoldsSpec) :=
 OpenClaim.holds_of_wide 7 Tryz.f7 rfl rfl rfl rfl rfl rfl rfl ⟨rfl, rfl, rfl, rfl, rfl⟩ rfl rfl rfl rfl rfl (by kernel_rfl) Tryz.func7 closed
   (of_decide_eq_true (by kernel_rfl)) wrap
   (fun os started H enc _ => lifted os started H enc)
theorem proved : Rows.FnHoldsSaid := ac2
#print axioms proved
end Go.Proofs.YtiljcjnnhkidbaaGreat.fnHolds
namespace Go.Proofs.YtiljcjnnhkidbaaGreat
theorem fnHolds_holds : Rows.FnHoldsSaid := fnHolds.proved
end Go.Proofs.YtiljcjnnhkidbaaGreat
