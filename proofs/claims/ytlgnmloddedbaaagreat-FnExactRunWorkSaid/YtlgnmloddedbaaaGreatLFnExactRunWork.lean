/- The law FnExactRunWork answers true, whatever it is handed; what it is handed reads behind the call as it read before. There are no conditions. -/
import Derived.Test.YtlgnmloddedbaaaGreatRows
import Derived.Test.YtlgnmloddedbaaaGreatTm4
import Derived.Test.YtlgnmloddedbaaaGreatRPRunW
import Derived.WalkKit
import Derived.ProofKit
import Derived.OpenShut
import Derived.ShutString
import Derived.ChangeOld
import Derived.Below
import Derived.SizedLaws
namespace Go.Proofs.YtlgnmloddedbaaaGreat.fnExactRunWork
open Go.ChangeShapes Go.WideShapes Go.ChangeAt Go.RowKit
set_option maxRecDepth 100000 in
theorem lifted (os:Os) (started:os.Started) (H:Type) (enc:TypeId×Value→H) :
  ReturnsInHanded {} Tryz.checked os 4 .any (Rows.fnExactRunWorkSpec.pre6 enc Tryz.prog Tryz.f4 Rows.fnExactRunWorkRow.domain false) (Rows.fnExactRunWorkSpec.post enc Tryz.prog Tryz.f4 false true false false):=by
 refine returnsInHanded_of_change_sized (C:=Tryz.checked) Go.TM.WO started (by kernel_rfl) Tryz.func4
  (ChangeSpec.witness6 (enc:=enc) (C:=Tryz.checked) false ⟨#[],#[.agg #[.int .i64 0,.slice none 0 0],.slice none 0 0],[]⟩ 8 (by kernel_rfl) (by kernel_rfl) (by kernel_rfl) (by kernel_rfl)) ?_
 intro W base args ds gs before afB hW aqR aqS _;have pH:∀(j:Nat) t v,Tryz.f4.params[j]?=some t→args[j]?=some v→Value.okWide Tryz.prog W .any base t v:=afB;have hW':=hW;have bQ:=hW'.lt;obtain ⟨p,q,F6,hV,rfl,Y2,Hv⟩:=hW;have hA:DataW.TrodAll enc Tryz.prog W 0 (fun _=>true) true Tryz.f4.params.toList args.toList ds p:=F6;have Wa:=hA;rw [Tryz.params4] at Wa;obtain ⟨v0,vs0,d0,ds0,p0,q0,MT,rfl,hp0,h0,r0⟩:=trodAll_cons Wa;obtain ⟨v1,vs1,d1,ds1,p1,q1,aqT,rfl,hp1,h1,r1⟩:=trodAll_cons r0;obtain ⟨_,rfl,_⟩:=trodAll_nil r1;obtain ⟨rfl,rfl⟩:=trodVars_none hV;refine (Go.TM.Om Go.TM.TD Go.TM.k4 (by kernel_rfl) (fun x hx=>⟨(true,()),Go.TM.Kt x.1 x.2.1 x.2.2.1 ⟨Go.TM.BT (Go.TM.cJ.1 hx).1,⟨Go.TM.Re (Go.TM.cJ.1 (Go.TM.cJ.1 hx).2).1,fun y hy=>Go.TM.z_i (Go.TM.Vg (Go.TM.cJ.1 (Go.TM.cJ.1 hx).2).1 y hy)⟩,trivial⟩ ⟨Go.TM.Re (Go.TM.cJ.1 (Go.TM.cJ.1 (Go.TM.cJ.1 hx).2).2).1,fun y hy=>Go.TM.Uf (Go.TM.Vg (Go.TM.cJ.1 (Go.TM.cJ.1 (Go.TM.cJ.1 hx).2).2).1 y hy)⟩,rfl⟩) (fun j t v ht hv=>pH j t v (by rwa [Array.getElem?_toList] at ht) hv) hA (fun x hx=>bQ x (List.mem_append_left _ hx))).mono fun e W' ⟨he,bel,Z3⟩ => ?_
 subst he;exact ⟨_,rfl,_,_,_,[],_,[],hW',trodAll_mk1 (shut_bool Tryz.underlying4 _),Z3,rfl,bel.frame _,fun h=>by cases h⟩
theorem aL {a b:Bool} (h:(a&&b)=true):a=true:=by cases a;cases h;rfl
theorem aR {a b:Bool} (h:(a&&b)=true):b=true:=by cases a;cases h;exact h
theorem aB {a b:Bool} (h:a=true) (g:b=true):(a&&b)=true:=by rw [h,g];rfl
theorem UJ:(Rows.fnExactRunWorkRow.wf (OpenSpec.ofChange Rows.fnExactRunWorkSpec)&&laidOutB Tryz.prog&&mapsRowed Tryz.prog&&Tryz.f4.params.all (Tryz.prog.readableRec ·)&&namedTie Tryz.prog Rows.fnExactRunWorkRow.named Rows.fnExactRunWorkSpec.vars&&(Rows.fnExactRunWorkRow.stops==[])&&(Tryz.prog.stops==[])&&(Rows.fnExactRunWorkRow.knobs==[])&&(Tryz.prog.stopKnobs==[]))=true:=by kernel_rfl
theorem cf1:((Rows.fnExactRunWorkRow.inPlace==Tryz.prog.inPlace 4)&&(Rows.fnExactRunWorkRow.unfollowed==Tryz.prog.unfollowed 4)&&(Rows.fnExactRunWorkRow.recurses==Tryz.prog.recurses 4))=true:=by kernel_rfl
theorem cf2:((Rows.fnExactRunWorkRow.named==Tryz.prog.varsNamed 4)&&(Rows.fnExactRunWorkRow.maps==(Tryz.f4.params.toList++Rows.fnExactRunWorkSpec.plain.varTypes Tryz.prog).any (Tryz.prog.mapsRec ·)))=true:=by kernel_rfl
theorem cf3:((Rows.fnExactRunWorkRow.ifaces==(Tryz.f4.params.toList++Rows.fnExactRunWorkSpec.plain.varTypes Tryz.prog).any (Tryz.prog.ifacesRec ·))&&(Rows.fnExactRunWorkRow.mapsOut==Tryz.prog.mapsAmong Tryz.f4.resultTypes.toList)&&(Rows.fnExactRunWorkRow.loops==(Tryz.f4.params.toList++Rows.fnExactRunWorkSpec.plain.varTypes Tryz.prog).any (Tryz.prog.loopsFrom ·))&&(Rows.fnExactRunWorkRow.wideKeys==(Tryz.f4.params.toList++Rows.fnExactRunWorkSpec.plain.varTypes Tryz.prog++Tryz.f4.resultTypes.toList).any (Tryz.prog.wideKeysFrom ·)))=true:=by kernel_rfl
theorem cf4:(Rows.fnExactRunWorkSpec.vars.all (Tryz.prog.varReadable ·)&&Tryz.f4.resultTypes.all (fun t=>Tryz.prog.readableRec t&&decide (t<Tryz.prog.types.size)))=true:=by kernel_rfl
theorem cf5:((Rows.fnExactRunWorkRow.ifacesOut==Tryz.f4.resultTypes.toList.any (Tryz.prog.ifacesRec ·))&&(Rows.fnExactRunWorkRow.loopsOut==Tryz.f4.resultTypes.toList.any (Tryz.prog.loopsFrom ·))&&(Rows.fnExactRunWorkRow.plainKeys==Tryz.prog.plainKeys)&&Rows.fnExactRunWorkRow.shortTexts.isNone&&Tryz.prog.stopsHeard&&Tryz.prog.mayEnter)=true:=by kernel_rfl
theorem cf6:((Rows.fnExactRunWorkRow.lifted==Tryz.prog.liftsFinal)&&(Tryz.prog.make==some Rows.fnExactRunWorkRow.make)&&(Rows.fnExactRunWorkRow.kinds==(if Rows.fnExactRunWorkRow.domain.isEmpty then [] else Tryz.f4.params.toList.map fun t=>match Tryz.prog.underlying t with | some (.int k)=>some k | _=>none))&&(Rows.fnExactRunWorkRow.pinned==Rows.fnExactRunWorkRow.pinnedBy)&&(Rows.fnExactRunWorkRow.veiled==(Tryz.f4.params.toList++Rows.fnExactRunWorkSpec.plain.varTypes Tryz.prog++Tryz.f4.resultTypes.toList).any (Tryz.prog.veiledRec ·))&&Rows.fnExactRunWorkRow.veiledFits Tryz.prog Tryz.f4.params.toList (Tryz.f4.params.toList++Rows.fnExactRunWorkSpec.plain.varTypes Tryz.prog++Tryz.f4.resultTypes.toList))=true:=by kernel_rfl
set_option maxRecDepth 100000 in
theorem closed:joinedFacts Tryz.pinned.checked.prog 4 Tryz.f4 Rows.fnExactRunWorkSpec Rows.fnExactRunWorkRow=true:=(aB (aB (aB (aB (aB (aB (aB (aB (aB (aB (aB (aB (aB (aB (aB (aB (aB (aB (aB (aB (aB (aB (aB (aB (aB (aB (aB (aB (aB (aB (aB (aL (aL (aL (aL (aL (aL (aL (aL UJ)))))))) (aR (aL (aL (aL (aL (aL (aL (aL UJ))))))))) (aR (aL (aL (aL (aL (aL (aL UJ)))))))) (aR (aL (aL (aL (aL (aL UJ))))))) (aR (aL (aL (aL (aL UJ)))))) (aR (aL (aL (aL UJ))))) (aR (aL (aL UJ)))) (aR (aL UJ))) (aR UJ)) (aL (aL cf1))) (aR (aL cf1))) (aR cf1)) (aL cf2)) (aR cf2)) (aL (aL (aL cf3)))) (aR (aL (aL cf3)))) (aR (aL cf3))) (aR cf3)) (aL cf4)) (aR cf4)) (aL (aL (aL (aL (aL cf5)))))) (aR (aL (aL (aL (aL cf5)))))) (aR (aL (aL (aL cf5))))) (aR (aL (aL cf5)))) (aR (aL cf5))) (aR cf5)) (aL (aL (aL (aL (aL cf6)))))) (aR (aL (aL (aL (aL cf6)))))) (aR (aL (aL (aL cf6))))) (aR (aL (aL cf6)))) (aR (aL cf6))) (aR cf6))
theorem wrap:Tryz.f4.isWrapper Tryz.pinned.checked.prog Rows.fnExactRunWorkRow.wrapper Rows.fnExactRunWorkRow.mainSum:=by unfold Func.isWrapper;first | (rw [if_pos (by decide +kernel)];kernel_rfl) | (rw [if_neg (by decide +kernel)];exact ⟨rfl,rfl⟩)
theorem alM:Rows.fnExactRunWorkRow.holds Tryz.pinned (OpenSpec.ofChange Rows.fnExactRunWorkSpec):=
 OpenClaim.holds_of_wide 4 Tryz.f4 rfl rfl rfl rfl rfl rfl rfl ⟨rfl,rfl,rfl,rfl,rfl⟩ rfl rfl rfl rfl rfl (by kernel_rfl) Tryz.func4 closed
  (of_decide_eq_true (by kernel_rfl)) wrap
  (fun os started H enc _=>lifted os started H enc)
theorem proved:Rows.FnExactRunWorkSaid:=alM
#print axioms proved
end Go.Proofs.YtlgnmloddedbaaaGreat.fnExactRunWork
namespace Go.Proofs.YtlgnmloddedbaaaGreat
theorem fnExactRunWork_holds:Rows.FnExactRunWorkSaid:=fnExactRunWork.proved
end Go.Proofs.YtlgnmloddedbaaaGreat
