/- The law FnMovesOn answers true, whatever it is handed; what it is handed reads behind the call as it read before. There are no conditions. -/
import Derived.Test.YtiljcjnnhkidbaaGreatRows
import Derived.Test.YtiljcjnnhkidbaaGreatTm3
import Derived.Test.YtiljcjnnhkidbaaGreatMPMovesOnLaw
import Derived.WalkKit
import Derived.ProofKit
import Derived.OpenShut
import Derived.ShutString
import Derived.ChangeOld
import Derived.Below
import Derived.SizedLaws
namespace Go.Proofs.YtiljcjnnhkidbaaGreat.fnMovesOn
open Go.ChangeShapes Go.WideShapes Go.ChangeAt Go.RowKit
set_option maxRecDepth 100000 in
theorem lifted (os:Os) (started:os.Started) (H:Type) (enc:TypeId×Value→H) :
  ReturnsInHanded {} Tryz.checked os 9 .any (Rows.fnMovesOnSpec.pre6 enc Tryz.prog Tryz.f9 Rows.fnMovesOnRow.domain false) (Rows.fnMovesOnSpec.post enc Tryz.prog Tryz.f9 false true false false):=by
 refine returnsInHanded_of_change_sized (C:=Tryz.checked) Go.TM.acf started (by kernel_rfl) Tryz.func9
  (ChangeSpec.witness6 (enc:=enc) (C:=Tryz.checked) false ⟨#[],#[.slice none 0 0],[]⟩ 8 (by kernel_rfl) (by kernel_rfl) (by kernel_rfl) (by kernel_rfl)) ?_
 intro W base args ds gs before alp hW awG awH _;have yn:∀(j:Nat) t v,Tryz.f9.params[j]?=some t→args[j]?=some v→Value.okWide Tryz.prog W .any base t v:=alp;have hW':=hW;have dM:=hW'.lt;obtain ⟨p,q,Sj,hV,rfl,hfz,Z7⟩:=hW;have hA:DataW.TrodAll enc Tryz.prog W 0 (fun _=>true) true Tryz.f9.params.toList args.toList ds p:=Sj;have hA1:=hA;rw [Tryz.params9] at hA1;obtain ⟨v0,vs0,d0,ds0,p0,q0,Ht,rfl,hp0,h0,r0⟩:=trodAll_cons hA1;obtain ⟨_,rfl,_⟩:=trodAll_nil r0;obtain ⟨rfl,rfl⟩:=trodVars_none hV;refine (Go.TM.SO Go.TM.Y7 Go.TM.k9 (by kernel_rfl) (fun x hx=>⟨(true,()),Go.TM.O6 x.1,rfl⟩) (fun j t v ht hv=>yn j t v (by rwa [Array.getElem?_toList] at ht) hv) hA (fun x hx=>dM x (List.mem_append_left _ hx))).mono fun e W' ⟨he,bel,agC⟩ => ?_
 subst he;exact ⟨_,rfl,_,_,_,[],_,[],hW',trodAll_mk1 (shut_bool Tryz.underlying4 _),agC,rfl,bel.frame _,fun h=>by cases h⟩
theorem aL {a b:Bool} (h:(a&&b)=true):a=true:=by cases a;cases h;rfl
theorem aR {a b:Bool} (h:(a&&b)=true):b=true:=by cases a;cases h;exact h
theorem aB {a b:Bool} (h:a=true) (g:b=true):(a&&b)=true:=by rw [h,g];rfl
theorem ZV:(Rows.fnMovesOnRow.wf (OpenSpec.ofChange Rows.fnMovesOnSpec)&&laidOutB Tryz.prog&&mapsRowed Tryz.prog&&Tryz.f9.params.all (Tryz.prog.readableRec ·)&&namedTie Tryz.prog Rows.fnMovesOnRow.named Rows.fnMovesOnSpec.vars&&(Rows.fnMovesOnRow.stops==[])&&(Tryz.prog.stops==[])&&(Rows.fnMovesOnRow.knobs==[])&&(Tryz.prog.stopKnobs==[]))=true:=by kernel_rfl
theorem cf1:((Rows.fnMovesOnRow.inPlace==Tryz.prog.inPlace 9)&&(Rows.fnMovesOnRow.unfollowed==Tryz.prog.unfollowed 9)&&(Rows.fnMovesOnRow.recurses==Tryz.prog.recurses 9))=true:=by kernel_rfl
theorem cf2:((Rows.fnMovesOnRow.named==Tryz.prog.varsNamed 9)&&(Rows.fnMovesOnRow.maps==(Tryz.f9.params.toList++Rows.fnMovesOnSpec.plain.varTypes Tryz.prog).any (Tryz.prog.mapsRec ·)))=true:=by kernel_rfl
theorem cf3:((Rows.fnMovesOnRow.ifaces==(Tryz.f9.params.toList++Rows.fnMovesOnSpec.plain.varTypes Tryz.prog).any (Tryz.prog.ifacesRec ·))&&(Rows.fnMovesOnRow.mapsOut==Tryz.prog.mapsAmong Tryz.f9.resultTypes.toList)&&(Rows.fnMovesOnRow.loops==(Tryz.f9.params.toList++Rows.fnMovesOnSpec.plain.varTypes Tryz.prog).any (Tryz.prog.loopsFrom ·))&&(Rows.fnMovesOnRow.wideKeys==(Tryz.f9.params.toList++Rows.fnMovesOnSpec.plain.varTypes Tryz.prog++Tryz.f9.resultTypes.toList).any (Tryz.prog.wideKeysFrom ·)))=true:=by kernel_rfl
theorem cf4:(Rows.fnMovesOnSpec.vars.all (Tryz.prog.varReadable ·)&&Tryz.f9.resultTypes.all (fun t=>Tryz.prog.readableRec t&&decide (t<Tryz.prog.types.size)))=true:=by kernel_rfl
theorem cf5:((Rows.fnMovesOnRow.ifacesOut==Tryz.f9.resultTypes.toList.any (Tryz.prog.ifacesRec ·))&&(Rows.fnMovesOnRow.loopsOut==Tryz.f9.resultTypes.toList.any (Tryz.prog.loopsFrom ·))&&(Rows.fnMovesOnRow.plainKeys==Tryz.prog.plainKeys)&&Rows.fnMovesOnRow.shortTexts.isNone&&Tryz.prog.stopsHeard&&Tryz.prog.mayEnter)=true:=by kernel_rfl
theorem cf6:((Rows.fnMovesOnRow.lifted==Tryz.prog.liftsFinal)&&(Tryz.prog.make==some Rows.fnMovesOnRow.make)&&(Rows.fnMovesOnRow.kinds==(if Rows.fnMovesOnRow.domain.isEmpty then [] else Tryz.f9.params.toList.map fun t=>match Tryz.prog.underlying t with | some (.int k)=>some k | _=>none))&&(Rows.fnMovesOnRow.pinned==Rows.fnMovesOnRow.pinnedBy)&&(Rows.fnMovesOnRow.veiled==(Tryz.f9.params.toList++Rows.fnMovesOnSpec.plain.varTypes Tryz.prog++Tryz.f9.resultTypes.toList).any (Tryz.prog.veiledRec ·))&&Rows.fnMovesOnRow.veiledFits Tryz.prog Tryz.f9.params.toList (Tryz.f9.params.toList++Rows.fnMovesOnSpec.plain.varTypes Tryz.prog++Tryz.f9.resultTypes.toList))=true:=by kernel_rfl
set_option maxRecDepth 100000 in
theorem closed:joinedFacts Tryz.pinned.checked.prog 9 Tryz.f9 Rows.fnMovesOnSpec Rows.fnMovesOnRow=true:=(aB (aB (aB (aB (aB (aB (aB (aB (aB (aB (aB (aB (aB (aB (aB (aB (aB (aB (aB (aB (aB (aB (aB (aB (aB (aB (aB (aB (aB (aB (aB (aL (aL (aL (aL (aL (aL (aL (aL ZV)))))))) (aR (aL (aL (aL (aL (aL (aL (aL ZV))))))))) (aR (aL (aL (aL (aL (aL (aL ZV)))))))) (aR (aL (aL (aL (aL (aL ZV))))))) (aR (aL (aL (aL (aL ZV)))))) (aR (aL (aL (aL ZV))))) (aR (aL (aL ZV)))) (aR (aL ZV))) (aR ZV)) (aL (aL cf1))) (aR (aL cf1))) (aR cf1)) (aL cf2)) (aR cf2)) (aL (aL (aL cf3)))) (aR (aL (aL cf3)))) (aR (aL cf3))) (aR cf3)) (aL cf4)) (aR cf4)) (aL (aL (aL (aL (aL cf5)))))) (aR (aL (aL (aL (aL cf5)))))) (aR (aL (aL (aL cf5))))) (aR (aL (aL cf5)))) (aR (aL cf5))) (aR cf5)) (aL (aL (aL (aL (aL cf6)))))) (aR (aL (aL (aL (aL cf6)))))) (aR (aL (aL (aL cf6))))) (aR (aL (aL cf6)))) (aR (aL cf6))) (aR cf6))
theorem wrap:Tryz.f9.isWrapper Tryz.pinned.checked.prog Rows.fnMovesOnRow.wrapper Rows.fnMovesOnRow.mainSum:=by unfold Func.isWrapper;first | (rw [if_pos (by decide +kernel)];kernel_rfl) | (rw [if_neg (by decide +kernel)];exact ⟨rfl,rfl⟩)
theorem asb:Rows.fnMovesOnRow.holds Tryz.pinned (OpenSpec.ofChange Rows.fnMovesOnSpec):=
 OpenClaim.holds_of_wide 9 Tryz.f9 rfl rfl rfl rfl rfl rfl rfl ⟨rfl,rfl,rfl,rfl,rfl⟩ rfl rfl rfl rfl rfl (by kernel_rfl) Tryz.func9 closed
  (of_decide_eq_true (by kernel_rfl)) wrap
  (fun os started H enc _=>lifted os started H enc)
theorem proved:Rows.FnMovesOnSaid:=asb
#print axioms proved
end Go.Proofs.YtiljcjnnhkidbaaGreat.fnMovesOn
namespace Go.Proofs.YtiljcjnnhkidbaaGreat
theorem fnMovesOn_holds:Rows.FnMovesOnSaid:=fnMovesOn.proved
end Go.Proofs.YtiljcjnnhkidbaaGreat
