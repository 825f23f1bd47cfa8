/- A daemon stays right, whatever it is told: the law. -/
import Derived.Test.YtiljcjnnhkidbaaGreatOPDaeL
set_option linter.unusedSimpArgs false
set_option linter.unusedVariables false
namespace Go.TM
open Go
theorem IS (l:List (Int×Unit)) (h:l.length≤1048576):oP l l=some (true,()):=by
 have hl:=ca (round:=jv) (e:=.inl ()) l.length (fun k=>(l,l,((k:Nat):Int),())) (by
   simp only [jv,rQ,aM,cond_false]) (fun k hk=>by
   simp only [jv,rQ,aD hk,ax,cond_true,cond_false,aF,List.getElem?_eq_getElem hk,Option.bind_some,decide_true,Bool.not_true,aN (show k<4611686018427387904 by omega)])
 have hl:aI jv (l,l,(0:Int),())=_:=hl;unfold oP;rw [ak (rfl:((List.length l:Nat):Int)=((List.length l:Nat):Int)),hl];rfl
theorem El (l:List xQ) (h:l.length≤1048576) (he:∀e∈l,Mh e):qI l l=some (true,()):=by
 have hl:=ca (round:=kg) (e:=.inl ()) l.length (fun k=>(l,l,((k:Nat):Int),())) (by
   simp only [kg,tF,aM,cond_false]) (fun k hk=>by
   have hs:=he _ (List.getElem_mem hk);simp only [kg,tF,aD hk,ax,cond_true,cond_false,aF,List.getElem?_eq_getElem hk,Option.bind_some,decide_true,Hu,Bool.and_self,Bool.not_true,IS _ (Nat.le_trans hs.ring (by decide)),IS _ (Nat.le_trans hs.B8 (by decide)),aN (show k<4611686018427387904 by omega)])
 have hl:aI kg (l,l,(0:Int),())=_:=hl;unfold qI;rw [ak (rfl:((List.length l:Nat):Int)=((List.length l:Nat):Int)),hl];rfl
theorem Mq {n:Nat} {d:bZ} (h:lD n d) (hn:n≤99) (l:List bZ) (hl:l.length≤4) (hr:∀r∈l,BV d r∧lD (n+1) r):aI gu (d.1,d.2.1,d.2.2.1,d.2.2.2.1,d.2.2.2.2.1,d.2.2.2.2.2.1,d.2.2.2.2.2.2.1,d.2.2.2.2.2.2.2.1,d.2.2.2.2.2.2.2.2.1,d.2.2.2.2.2.2.2.2.2.1,d.2.2.2.2.2.2.2.2.2.2.1,d.2.2.2.2.2.2.2.2.2.2.2.1,d.2.2.2.2.2.2.2.2.2.2.2.2.1,d.2.2.2.2.2.2.2.2.2.2.2.2.2.1,d.2.2.2.2.2.2.2.2.2.2.2.2.2.2.1,d.2.2.2.2.2.2.2.2.2.2.2.2.2.2.2.1,d.2.2.2.2.2.2.2.2.2.2.2.2.2.2.2.2.1,d.2.2.2.2.2.2.2.2.2.2.2.2.2.2.2.2.2.1,d.2.2.2.2.2.2.2.2.2.2.2.2.2.2.2.2.2.2.1,d.2.2.2.2.2.2.2.2.2.2.2.2.2.2.2.2.2.2.2.1,d.2.2.2.2.2.2.2.2.2.2.2.2.2.2.2.2.2.2.2.2.1,d.2.2.2.2.2.2.2.2.2.2.2.2.2.2.2.2.2.2.2.2.2.1,d.2.2.2.2.2.2.2.2.2.2.2.2.2.2.2.2.2.2.2.2.2.2.1,d.2.2.2.2.2.2.2.2.2.2.2.2.2.2.2.2.2.2.2.2.2.2.2.1,l,l,(0:Int),())=some (.inl (l,())):=by
 have awb:=h.log;have l1:=ca (round:=gu) (e:=.inl (l,())) l.length (fun k=>(d.1,d.2.1,d.2.2.1,d.2.2.2.1,d.2.2.2.2.1,d.2.2.2.2.2.1,d.2.2.2.2.2.2.1,d.2.2.2.2.2.2.2.1,d.2.2.2.2.2.2.2.2.1,d.2.2.2.2.2.2.2.2.2.1,d.2.2.2.2.2.2.2.2.2.2.1,d.2.2.2.2.2.2.2.2.2.2.2.1,d.2.2.2.2.2.2.2.2.2.2.2.2.1,d.2.2.2.2.2.2.2.2.2.2.2.2.2.1,d.2.2.2.2.2.2.2.2.2.2.2.2.2.2.1,d.2.2.2.2.2.2.2.2.2.2.2.2.2.2.2.1,d.2.2.2.2.2.2.2.2.2.2.2.2.2.2.2.2.1,d.2.2.2.2.2.2.2.2.2.2.2.2.2.2.2.2.2.1,d.2.2.2.2.2.2.2.2.2.2.2.2.2.2.2.2.2.2.1,d.2.2.2.2.2.2.2.2.2.2.2.2.2.2.2.2.2.2.2.1,d.2.2.2.2.2.2.2.2.2.2.2.2.2.2.2.2.2.2.2.2.1,d.2.2.2.2.2.2.2.2.2.2.2.2.2.2.2.2.2.2.2.2.2.1,d.2.2.2.2.2.2.2.2.2.2.2.2.2.2.2.2.2.2.2.2.2.2.1,d.2.2.2.2.2.2.2.2.2.2.2.2.2.2.2.2.2.2.2.2.2.2.2.1,l,l,((k:Nat):Int),())) (by
   simp only [gu,az,qJ,az,aM,cond_false]) (fun k hk=>by
   obtain ⟨hg,hG⟩:=hr _ (List.getElem_mem hk);simp only [gu,az,qJ,az,aD hk,ax,cond_true,aF,fW hk,List.getElem?_eq_getElem hk,Option.bind_some,aN (show k<4611686018427387904 by omega)];generalize l[k]=r at *;have hk:=(mc r (hG.small (by omega))).2.1;rw [(mc r (hG.small (by omega))).2.2.2 hG.q] at hk;have e1:=El d.2.2.2.2.2.2.2.2.2.2.2.2.2.2.2.2.2.2.2.2.2.2.2.1 (by omega) h.T7;have e2:=El r.2.2.2.2.2.2.2.2.2.2.2.2.2.2.2.2.2.2.2.2.2.2.2.1 (by have:=hG.log;omega) hG.T7;have hlen:=hg.len;simp only [hk,Option.bind_some,Bool.not_true,cond_false,ak hg.id,ak hg.xS,aq (show ¬((List.length r.2.2.2.2.2.2.2.2.2.2.2.2.2.2.2.2.2.2.2.2.2.2.2.1:Nat):Int)<((List.length d.2.2.2.2.2.2.2.2.2.2.2.2.2.2.2.2.2.2.2.2.2.2.2.1:Nat):Int) by omega),ak (show ((List.length d.2.2.2.2.2.2.2.2.2.2.2.2.2.2.2.2.2.2.2.2.2.2.2.1:Nat):Int)≤((List.length r.2.2.2.2.2.2.2.2.2.2.2.2.2.2.2.2.2.2.2.2.2.2.2.1:Nat):Int) by omega),cond_true,List.drop_zero,hg.take,e1,e2])
 exact l1
theorem Ov (code:List (Int×Unit)):vW code=some (true,()):=by
 unfold vW HH;delta az aw aP bD
 by_cases hb:(1048576:Int)<((List.length code:Nat):Int)
 ·rw [ak hb];rfl
 rw [aq hb];obtain ⟨d,t,b,x,e1,h,ht,hbl⟩:=Jx code (by omega);have hW:=h.small (by omega);have eD:=(mc d hW).2.1;rw [(mc d hW).2.2.2 h.q] at eD;obtain ⟨r1,said,nx,bb,s1,i1,g1,_,f1,t1⟩:=K0 h (by omega) t (by omega);obtain ⟨s2,i2⟩:=D9 d b hW (by omega);obtain ⟨s3,i3⟩:=B7 d d.2.2.2.2.2.2.2.2.2.2.2.2.2.2.2.2.2.2.2.1 x hW;obtain ⟨s4,i4⟩:=Qy d hW;have G1:BV d r1:=by
  cases bb
  ·rw [(f1 rfl).1];exact BV.same d
  ·obtain ⟨_,_,m,k,_,e⟩:=t1 rfl;rw [e];exact IQ d m
 have g2:lD 90 (bj d b).1:=by
  cases hb:(bj d b).2
  ·have:(bj d b).1=d:=by
    unfold bj at hb ⊢
    cases hc:xW d b
    ·rfl
    ·rw [hc] at hb;cases hb
   rw [this];exact h.up (by omega)
  ·exact (K2 h (by omega) (by omega) hb).1
 have g3:=(IF h (by omega) d.2.2.2.2.2.2.2.2.2.2.2.2.2.2.2.2.2.2.2.1 x).1;have g4:lD 90 (gK d):=(W5 h).up (by omega);have hL:=Mq h (by omega) [r1,(bj d b).1,lC d d.2.2.2.2.2.2.2.2.2.2.2.2.2.2.2.2.2.2.2.1 x,gK d] (Nat.le_refl 4) (fun r hr=>by
  simp only [List.mem_cons,List.not_mem_nil,or_false] at hr;rcases hr with rfl | rfl | rfl | rfl
  ·exact ⟨G1,g1⟩
  ·exact ⟨Xl d b,g2⟩
  ·exact ⟨TW d _ x,g3⟩
  ·exact ⟨TX d,g4⟩)
 have iW:=(TA (gK d) (g4.small (by omega))).2;have hB:mb (gK d)=true:=(mc _ (g4.small (by omega))).2.2.2 g4.q;have hwk:ch (gK d)=(ZT (gK d),true):=by
  unfold ch;rw [hB];rfl
 have g5:=(W6 g4 (by rw [hwk])).1;rw [hwk] at g5 iW;have eW:=(mc _ (g5.small (by omega))).2.1;rw [(mc _ (g5.small (by omega))).2.2.2 g5.q] at eW;simp only [cond_false,e1,eD,i1,i2,i3,i4,s1,s2,s3,s4,Option.bind_some,Bool.not_true,List.nil_append];show bW (aI gu (d.1,d.2.1,d.2.2.1,d.2.2.2.1,d.2.2.2.2.1,d.2.2.2.2.2.1,d.2.2.2.2.2.2.1,d.2.2.2.2.2.2.2.1,d.2.2.2.2.2.2.2.2.1,d.2.2.2.2.2.2.2.2.2.1,d.2.2.2.2.2.2.2.2.2.2.1,d.2.2.2.2.2.2.2.2.2.2.2.1,d.2.2.2.2.2.2.2.2.2.2.2.2.1,d.2.2.2.2.2.2.2.2.2.2.2.2.2.1,d.2.2.2.2.2.2.2.2.2.2.2.2.2.2.1,d.2.2.2.2.2.2.2.2.2.2.2.2.2.2.2.1,d.2.2.2.2.2.2.2.2.2.2.2.2.2.2.2.2.1,d.2.2.2.2.2.2.2.2.2.2.2.2.2.2.2.2.2.1,d.2.2.2.2.2.2.2.2.2.2.2.2.2.2.2.2.2.2.1,d.2.2.2.2.2.2.2.2.2.2.2.2.2.2.2.2.2.2.2.1,d.2.2.2.2.2.2.2.2.2.2.2.2.2.2.2.2.2.2.2.2.1,d.2.2.2.2.2.2.2.2.2.2.2.2.2.2.2.2.2.2.2.2.2.1,d.2.2.2.2.2.2.2.2.2.2.2.2.2.2.2.2.2.2.2.2.2.2.1,d.2.2.2.2.2.2.2.2.2.2.2.2.2.2.2.2.2.2.2.2.2.2.2.1,[r1,(bj d b).1,lC d d.2.2.2.2.2.2.2.2.2.2.2.2.2.2.2.2.2.2.2.1 x,gK d],[r1,(bj d b).1,lC d d.2.2.2.2.2.2.2.2.2.2.2.2.2.2.2.2.2.2.2.1 x,gK d],(0:Int),())) _ _=_;rw [hL];show Option.bind (xO (gK d).1 (gK d).2.1 (gK d).2.2.1 (gK d).2.2.2.1 (gK d).2.2.2.2.1 (gK d).2.2.2.2.2.1 (gK d).2.2.2.2.2.2.1 (gK d).2.2.2.2.2.2.2.1 (gK d).2.2.2.2.2.2.2.2.1 (gK d).2.2.2.2.2.2.2.2.2.1 (gK d).2.2.2.2.2.2.2.2.2.2.1 (gK d).2.2.2.2.2.2.2.2.2.2.2.1 (gK d).2.2.2.2.2.2.2.2.2.2.2.2.1 (gK d).2.2.2.2.2.2.2.2.2.2.2.2.2.1 (gK d).2.2.2.2.2.2.2.2.2.2.2.2.2.2.1 (gK d).2.2.2.2.2.2.2.2.2.2.2.2.2.2.2.1 (gK d).2.2.2.2.2.2.2.2.2.2.2.2.2.2.2.2.1 (gK d).2.2.2.2.2.2.2.2.2.2.2.2.2.2.2.2.2.1 (gK d).2.2.2.2.2.2.2.2.2.2.2.2.2.2.2.2.2.2.1 (gK d).2.2.2.2.2.2.2.2.2.2.2.2.2.2.2.2.2.2.2.1 (gK d).2.2.2.2.2.2.2.2.2.2.2.2.2.2.2.2.2.2.2.2.1 (gK d).2.2.2.2.2.2.2.2.2.2.2.2.2.2.2.2.2.2.2.2.2.1 (gK d).2.2.2.2.2.2.2.2.2.2.2.2.2.2.2.2.2.2.2.2.2.2.1 (gK d).2.2.2.2.2.2.2.2.2.2.2.2.2.2.2.2.2.2.2.2.2.2.2.1) _=_;rw [iW];simp only [Option.bind_some,cond_true];simp only at eW;rw [eW];rfl
end Go.TM
