/- The law FnAloneGoes answers true, whatever it is handed; what it is handed reads behind the call as it read before. There are no conditions. -/
import Derived.Test.YtiljcjnnhkidbaaGreatRows
import Derived.Test.YtiljcjnnhkidbaaGreatTm3
import Derived.Test.YtiljcjnnhkidbaaGreatNPAloneLaw
import Derived.WalkKit
import Derived.ProofKit
import Derived.OpenShut
import Derived.ShutString
import Derived.ChangeOld
import Derived.Below
import Derived.SizedLaws
namespace Go.Proofs.YtiljcjnnhkidbaaGreat.fnAloneGoes
open Go.ChangeShapes Go.WideShapes Go.ChangeAt Go.RowKit
set_option maxRecDepth 100000 in
theorem lifted (os:Os) (started:os.Started) (H:Type) (enc:TypeId×Value→H) :
  ReturnsInHanded {} Tryz.checked os 8 .any (Rows.fnAloneGoesSpec.pre6 enc Tryz.prog Tryz.f8 Rows.fnAloneGoesRow.domain false) (Rows.fnAloneGoesSpec.post enc Tryz.prog Tryz.f8 false true false false):=by
 refine returnsInHanded_of_change_sized (C:=Tryz.checked) Go.TM.adi started (by kernel_rfl) Tryz.func8
  (ChangeSpec.witness6 (enc:=enc) (C:=Tryz.checked) false ⟨#[],#[.slice none 0 0],[]⟩ 8 (by kernel_rfl) (by kernel_rfl) (by kernel_rfl) (by kernel_rfl)) ?_
 intro W base args ds gs before aml hW axz axA _;have yy:∀(j:Nat) t v,Tryz.f8.params[j]?=some t→args[j]?=some v→Value.okWide Tryz.prog W .any base t v:=aml;have hW':=hW;have dO:=hW'.lt;obtain ⟨p,q,Sv,hV,rfl,hfz,hnd⟩:=hW;have hA:DataW.TrodAll enc Tryz.prog W 0 (fun _=>true) true Tryz.f8.params.toList args.toList ds p:=Sv;have hA1:=hA;rw [Tryz.params8] at hA1;obtain ⟨v0,vs0,d0,ds0,p0,q0,HC,rfl,hp0,h0,r0⟩:=trodAll_cons hA1;obtain ⟨_,rfl,_⟩:=trodAll_nil r0;obtain ⟨rfl,rfl⟩:=trodVars_none hV;refine (Go.TM.SY Go.TM.ZF Go.TM.k8 (by kernel_rfl) (fun x hx=>⟨(true,()),Go.TM.UK x.1,rfl⟩) (fun j t v ht hv=>yy j t v (by rwa [Array.getElem?_toList] at ht) hv) hA (fun x hx=>dO x (List.mem_append_left _ hx))).mono fun e W' ⟨he,bel,ahp⟩ => ?_
 subst he;exact ⟨_,rfl,_,_,_,[],_,[],hW',trodAll_mk1 (shut_bool Tryz.underlying4 _),ahp,rfl,bel.frame _,fun h=>by cases h⟩
theorem aL {a b:Bool} (h:(a&&b)=true):a=true:=by cases a;cases h;rfl
theorem aR {a b:Bool} (h:(a&&b)=true):b=true:=by cases a;cases h;exact h
theorem aB {a b:Bool} (h:a=true) (g:b=true):(a&&b)=true:=by rw [h,g];rfl
theorem cf0:(Rows.fnAloneGoesRow.wf (OpenSpec.ofChange Rows.fnAloneGoesSpec)&&laidOutB Tryz.prog&&mapsRowed Tryz.prog&&Tryz.f8.params.all (Tryz.prog.readableRec ·)&&namedTie Tryz.prog Rows.fnAloneGoesRow.named Rows.fnAloneGoesSpec.vars&&(Rows.fnAloneGoesRow.stops==[])&&(Tryz.prog.stops==[])&&(Rows.fnAloneGoesRow.knobs==[])&&(Tryz.prog.stopKnobs==[]))=true:=by kernel_rfl
theorem cf1:((Rows.fnAloneGoesRow.inPlace==Tryz.prog.inPlace 8)&&(Rows.fnAloneGoesRow.unfollowed==Tryz.prog.unfollowed 8)&&(Rows.fnAloneGoesRow.recurses==Tryz.prog.recurses 8))=true:=by kernel_rfl
theorem cf2:((Rows.fnAloneGoesRow.named==Tryz.prog.varsNamed 8)&&(Rows.fnAloneGoesRow.maps==(Tryz.f8.params.toList++Rows.fnAloneGoesSpec.plain.varTypes Tryz.prog).any (Tryz.prog.mapsRec ·)))=true:=by kernel_rfl
theorem cf3:((Rows.fnAloneGoesRow.ifaces==(Tryz.f8.params.toList++Rows.fnAloneGoesSpec.plain.varTypes Tryz.prog).any (Tryz.prog.ifacesRec ·))&&(Rows.fnAloneGoesRow.mapsOut==Tryz.prog.mapsAmong Tryz.f8.resultTypes.toList)&&(Rows.fnAloneGoesRow.loops==(Tryz.f8.params.toList++Rows.fnAloneGoesSpec.plain.varTypes Tryz.prog).any (Tryz.prog.loopsFrom ·))&&(Rows.fnAloneGoesRow.wideKeys==(Tryz.f8.params.toList++Rows.fnAloneGoesSpec.plain.varTypes Tryz.prog++Tryz.f8.resultTypes.toList).any (Tryz.prog.wideKeysFrom ·)))=true:=by kernel_rfl
theorem cf4:(Rows.fnAloneGoesSpec.vars.all (Tryz.prog.varReadable ·)&&Tryz.f8.resultTypes.all (fun t=>Tryz.prog.readableRec t&&decide (t<Tryz.prog.types.size)))=true:=by kernel_rfl
theorem cf5:((Rows.fnAloneGoesRow.ifacesOut==Tryz.f8.resultTypes.toList.any (Tryz.prog.ifacesRec ·))&&(Rows.fnAloneGoesRow.loopsOut==Tryz.f8.resultTypes.toList.any (Tryz.prog.loopsFrom ·))&&(Rows.fnAloneGoesRow.plainKeys==Tryz.prog.plainKeys)&&Rows.fnAloneGoesRow.shortTexts.isNone&&Tryz.prog.stopsHeard&&Tryz.prog.mayEnter)=true:=by kernel_rfl
theorem cf6:((Rows.fnAloneGoesRow.lifted==Tryz.prog.liftsFinal)&&(Tryz.prog.make==some Rows.fnAloneGoesRow.make)&&(Rows.fnAloneGoesRow.kinds==(if Rows.fnAloneGoesRow.domain.isEmpty then [] else Tryz.f8.params.toList.map fun t=>match Tryz.prog.underlying t with | some (.int k)=>some k | _=>none))&&(Rows.fnAloneGoesRow.pinned==Rows.fnAloneGoesRow.pinnedBy)&&(Rows.fnAloneGoesRow.veiled==(Tryz.f8.params.toList++Rows.fnAloneGoesSpec.plain.varTypes Tryz.prog++Tryz.f8.resultTypes.toList).any (Tryz.prog.veiledRec ·))&&Rows.fnAloneGoesRow.veiledFits Tryz.prog Tryz.f8.params.toList (Tryz.f8.params.toList++Rows.fnAloneGoesSpec.plain.varTypes Tryz.prog++Tryz.f8.resultTypes.toList))=true:=by kernel_rfl
set_option maxRecDepth 100000 in
theorem closed:joinedFacts Tryz.pinned.checked.prog 8 Tryz.f8 Rows.fnAloneGoesSpec Rows.fnAloneGoesRow=true:=(aB (aB (aB (aB (aB (aB (aB (aB (aB (aB (aB (aB (aB (aB (aB (aB (aB (aB (aB (aB (aB (aB (aB (aB (aB (aB (aB (aB (aB (aB (aB (aL (aL (aL (aL (aL (aL (aL (aL cf0)))))))) (aR (aL (aL (aL (aL (aL (aL (aL cf0))))))))) (aR (aL (aL (aL (aL (aL (aL cf0)))))))) (aR (aL (aL (aL (aL (aL cf0))))))) (aR (aL (aL (aL (aL cf0)))))) (aR (aL (aL (aL cf0))))) (aR (aL (aL cf0)))) (aR (aL cf0))) (aR cf0)) (aL (aL cf1))) (aR (aL cf1))) (aR cf1)) (aL cf2)) (aR cf2)) (aL (aL (aL cf3)))) (aR (aL (aL cf3)))) (aR (aL cf3))) (aR cf3)) (aL cf4)) (aR cf4)) (aL (aL (aL (aL (aL cf5)))))) (aR (aL (aL (aL (aL cf5)))))) (aR (aL (aL (aL cf5))))) (aR (aL (aL cf5)))) (aR (aL cf5))) (aR cf5)) (aL (aL (aL (aL (aL cf6)))))) (aR (aL (aL (aL (aL cf6)))))) (aR (aL (aL (aL cf6))))) (aR (aL (aL cf6)))) (aR (aL cf6))) (aR cf6))
theorem wrap:Tryz.f8.isWrapper Tryz.pinned.checked.prog Rows.fnAloneGoesRow.wrapper Rows.fnAloneGoesRow.mainSum:=by unfold Func.isWrapper;first | (rw [if_pos (by decide +kernel)];kernel_rfl) | (rw [if_neg (by decide +kernel)];exact ⟨rfl,rfl⟩)
theorem as4:Rows.fnAloneGoesRow.holds Tryz.pinned (OpenSpec.ofChange Rows.fnAloneGoesSpec):=
 OpenClaim.holds_of_wide 8 Tryz.f8 rfl rfl rfl rfl rfl rfl rfl ⟨rfl,rfl,rfl,rfl,rfl⟩ rfl rfl rfl rfl rfl (by kernel_rfl) Tryz.func8 closed
  (of_decide_eq_true (by kernel_rfl)) wrap
  (fun os started H enc _=>lifted os started H enc)
theorem proved:Rows.FnAloneGoesSaid:=as4
#print axioms proved
end Go.Proofs.YtiljcjnnhkidbaaGreat.fnAloneGoes
namespace Go.Proofs.YtiljcjnnhkidbaaGreat
theorem fnAloneGoes_holds:Rows.FnAloneGoesSaid:=fnAloneGoes.proved
end Go.Proofs.YtiljcjnnhkidbaaGreat
