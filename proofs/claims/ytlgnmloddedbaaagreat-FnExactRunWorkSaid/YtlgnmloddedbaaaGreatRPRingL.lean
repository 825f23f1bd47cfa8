/- A ring's life, as the reference plays it: its events. -/
import Derived.Test.YtlgnmloddedbaaaGreatRPHold
set_option linter.unusedSimpArgs false
set_option linter.unusedVariables false
namespace Go.TM
open Go
theorem Px {n:Nat} {c:Int} {ms:dF} {w:bt} (h:fZ n c ms w) (hn:n≤1000000) {k:Nat} (hk:k<w.2.2.1.length):∃w',lI w.1 w.2.1 w.2.2.1 w.2.2.2.1 w.2.2.2.2.1 w.q.1 ((k:Nat):Int)=some (w'.1,w'.2.1,w'.2.2.1,w'.2.2.2.1,w'.2.2.2.2.1,w'.q.1,())∧fZ (n+1) c ms w'∧Ip ms w w':=by
 obtain ⟨q0,q1,q2⟩:=h.Dp;have hm:=(h.pw _ (List.getElem_mem hk)).1;have hl:=h.len;have hh:=h.heard;have nk:k<w.2.2.2.2.1.length:=by omega
 obtain ⟨j,m',e,_,p2,p3,p4,_⟩:=Nr hm;have ha:=(zT (w.2.2.1[k]).2.2.2.1 (Nat.le_trans (cm _ hm.items).1 (by decide))).2.2.1;have hi:=(cm _ hm.items).1;have hg:=hm.heard;have hj:j≤60:=by omega
 have hx:=h.list _ (List.getElem_mem nk);refine ⟨ZR (pt w k m') (w.2.2.2.2.1.set k ((w.2.2.2.2.1[k]).1++ji (w.2.2.1[k]).2.2.2.1 (w.2.2.1[k]).q.2.2.2.2.1 j,())),?_,?_,fun R S hR => ?_⟩
 ·have h1:=pv w (by omega) hk m';unfold lI;simp only [ak,cond_true,az,List.getElem?_eq_getElem hk,Option.bind_some,p2,h1];show (bif Nat.ble ((0+w.2.2.2.2.1.length)*24) lim then _ else none)=_;simp only [pt,aJ (show (0+w.2.2.2.2.1.length)*24≤lim by unfold lim;omega),cond_true,List.nil_append,cS nk,List.getElem?_eq_getElem nk,Option.bind_some,aJ (show (0+(w.2.2.2.2.1[k]).1.length)*40≤lim by unfold lim;omega),oH,aJ (show ((w.2.2.2.2.1[k]).1.length+j)*40≤lim by unfold lim;omega)];rfl
 ·have h2:=h.px hk p3 (by rw [e];rfl) (by rw [e];rfl) (by rw [e];rfl);have h3:=h2.up (show n≤n+1 by omega);exact { h3 with
   heard:=by show (w.2.2.2.2.1.set k _).length=_;rw [List.length_set];exact hh
   list:=fun x py=>by
    have py:x∈w.2.2.2.2.1.set k _:=py;rcases List.mem_or_eq_of_mem_set py with py | rfl
    ·have:=h.list x py;omega
    ·show ((w.2.2.2.2.1[k]).1++ji _ _ j).length≤_;rw [List.length_append,oH];omega }
 ·have h4:=hR.Sq hk ((hR.px k hk).same (m':=m') (by rw [e];rfl) (by rw [e];rfl) (by rw [e];rfl));exact ⟨R,S,{ Bn:=h4.Bn,px:=h4.px,said:=h4.said }⟩
theorem Ml {n:Nat} {c:Int} {ms:dF} {w:bt} (h:fZ n c ms w) (hn:n≤1000) {k:Nat} (hk:k<w.2.2.1.length):∃a w',kz w.1 w.2.1 w.2.2.1 w.2.2.2.1 w.2.2.2.2.1 w.q.1 ((k:Nat):Int)=some (a,w'.1,w'.2.1,w'.2.2.1,w'.2.2.2.1,w'.2.2.2.2.1,w'.q.1,())∧fZ (n+1) c ms w'∧Ip ms w w':=by
 obtain ⟨q0,q1,q2⟩:=h.Dp;have hm:=(h.pw _ (List.getElem_mem hk)).1;have hi:=(cm _ hm.items).1;have hf:=h.wv;have hl:(w.2.2.1[k]).q.q.q.1.length≤20:=by
  rcases hm.last with q | q
  ·rw [show (w.2.2.1[k]).q.q.q.1=[] from q.2.2.2.2.2];exact Nat.zero_le _
  ·exact q.q.1
 rw [Ha w hk q0 (by omega) (by omega) (by omega) (by omega)]
 cases hb:oG (ie w.2.2.1[k])
 ·have ht:Cn (ie w.2.2.1[k]):=by
   rcases hm.last with q | q
   ·have:=(sq (ie w.2.2.1[k])).2.2.2 q;rw [hb] at this;cases this
   ·exact q
  refine ⟨0,tu w w.2.2.1[k],rfl,(h.up (Nat.le_succ n)).Bo (fun f hf => ?_) ?_,fun R S hR=>⟨R,S,Pu h hR hk fun q=>by rw [(sq (ie w.2.2.1[k])).2.2.2 q] at hb;cases hb⟩⟩
  ·rcases List.mem_append.1 hf with hf | hf
   ·rcases List.mem_append.1 hf with hf | hf
    ·exact h.Bn f hf
    ·rw [List.mem_singleton] at hf;subst hf;exact Fm ht
   ·exact Hb (fun x hx=>q9 hm.items x (List.mem_filter.1 hx).1) f hf
  ·have h1:=mZ w.2.2.1 (w.2.2.1[k]).1 5 q0 (Fl w.2.2.1[k]);have h2:(Fl w.2.2.1[k]).length≤60:=Nat.le_trans (List.length_filter_le _ _) hi;rw [List.length_append,List.length_append,List.length_singleton];omega
 ·exact ⟨1,w,rfl,h.up (Nat.le_succ n),fun R S hR=>⟨R,S,hR⟩⟩
def sC (f:mh) (l:aS):aS:=l.filter fun x=>decide (f.2.2.2.2.1<x.1)
def eV (w:bt) (f:mh) (l:aS):bt:=ZS w (w.q.1++sC f l)
theorem Bp (f:mh) (l:aS):(sC f l).length≤l.length:=List.length_filter_le _ _
theorem Py (w:bt) (f:mh) (l:aS) (t:kY) (h1:w.q.1.length≤1048576) (h2:l.length≤1048576):aG cq (w.1,w.2.1,w.2.2.1,w.2.2.2.1,w.2.2.2.2.1,w.q.1,f.1,f.2.1,f.2.2.1,f.2.2.2.1,f.2.2.2.2.1,f.q.1,f.q.2.1,f.q.2.2.1,f.q.2.2.2.1,f.q.2.2.2.2.1,f.q.q.1,f.q.q.2.1,l,t.1,t.2.1,t.2.2.1,t.2.2.2.1,t.2.2.2.2.1,t.q.1,(0:Int),())=some (.inl ((eV w f l).1,(eV w f l).2.1,(eV w f l).2.2.1,(eV w f l).2.2.2.1,(eV w f l).2.2.2.2.1,(eV w f l).q.1,f.1,f.2.1,f.2.2.1,f.2.2.2.1,f.2.2.2.2.1,f.q.1,f.q.2.1,f.q.2.2.1,f.q.2.2.2.1,f.q.2.2.2.2.1,f.q.q.1,f.q.q.2.1,l,t.1,t.2.1,t.2.2.1,t.2.2.2.1,t.2.2.2.2.1,t.q.1,())):=by
 have l1:=bD (round:=cq) (e:=.inl ((eV w f l).1,(eV w f l).2.1,(eV w f l).2.2.1,(eV w f l).2.2.2.1,(eV w f l).2.2.2.2.1,(eV w f l).q.1,f.1,f.2.1,f.2.2.1,f.2.2.2.1,f.2.2.2.2.1,f.q.1,f.q.2.1,f.q.2.2.1,f.q.2.2.2.1,f.q.2.2.2.2.1,f.q.q.1,f.q.q.2.1,l,t.1,t.2.1,t.2.2.1,t.2.2.2.1,t.2.2.2.2.1,t.q.1,())) l.length (fun k=>((eV w f (l.take k)).1,(eV w f (l.take k)).2.1,(eV w f (l.take k)).2.2.1,(eV w f (l.take k)).2.2.2.1,(eV w f (l.take k)).2.2.2.2.1,(eV w f (l.take k)).q.1,f.1,f.2.1,f.2.2.1,f.2.2.2.1,f.2.2.2.2.1,f.q.1,f.q.2.1,f.q.2.2.1,f.q.2.2.2.1,f.q.2.2.2.2.1,f.q.q.1,f.q.q.2.1,l,t.1,t.2.1,t.2.2.1,t.2.2.2.1,t.2.2.2.2.1,t.q.1,((k:Nat):Int),())) (by
  simp only [cq,kg,aC,cond_false,List.take_length]) (fun k hk=>by
  have hl:=Bp f (l.take k);rw [List.length_take] at hl;have K5:Nat.ble ((0+(w.q.1++sC f (l.take k)).length)*40) lim=true:=aJ (by rw [List.length_append];unfold lim;omega);have Jg:Nat.ble (((w.q.1++sC f (l.take k)).length+1)*40) lim=true:=aJ (by rw [List.length_append];unfold lim;omega);have e:sC f (l.take (k+1))=sC f (l.take k)++(if decide (f.2.2.2.2.1<(l[k]).1)=true then [l[k]] else []):=by
   unfold sC;rw [List.take_succ_eq_append_getElem hk,List.filter_append,List.filter_cons,List.filter_nil]
  simp only [eV,ZS,e,cq,kg,ax hk,cS hk,ak,cond_true,az,List.getElem?_eq_getElem hk,Option.bind_some,aE (show k<4611686018427387904 by omega),K5,Jg,List.nil_append,cX]
  by_cases e:f.2.2.2.2.1<(l[k]).1
  ·rw [af e,if_pos rfl,←List.append_assoc];rfl
  ·rw [ai e,if_neg (by decide)];simp only [cond_false];rw [List.append_nil])
 have l1:aG cq ((eV w f (l.take 0)).1,(eV w f (l.take 0)).2.1,(eV w f (l.take 0)).2.2.1,(eV w f (l.take 0)).2.2.2.1,(eV w f (l.take 0)).2.2.2.2.1,(eV w f (l.take 0)).q.1,f.1,f.2.1,f.2.2.1,f.2.2.2.1,f.2.2.2.2.1,f.q.1,f.q.2.1,f.q.2.2.1,f.q.2.2.2.1,f.q.2.2.2.2.1,f.q.q.1,f.q.q.2.1,l,t.1,t.2.1,t.2.2.1,t.2.2.2.1,t.2.2.2.2.1,t.q.1,(0:Int),())=_:=l1;have e0:eV w f (l.take 0)=w:=by unfold eV;rw [show sC f (l.take 0)=[] from rfl,List.append_nil];rfl
 rwa [e0] at l1
theorem Ss {R:Nat} {S:Int} {n:Nat} {c:Int} {ms:dF} {w:bt} (h:fZ n c ms w) (hR:wo R S ms w) {f:mh} (hf:FY R S ms f) (ht:f.2.1=true) {k:Nat} (hk:k<w.2.2.1.length) (yw:(w.2.2.1[k]).1=f.1) {t:kY} (Kz:(f.2.2.1,f.2.2.2.1,f.2.2.2.2.1,f.q.1,f.q.2.1,f.q.2.2.1,())=t)
  {m':eb} {said:aS} {j:Nat} {nx:kY} (H:Uz w.2.2.1[k] t m' said j nx) (hr:(w.2.2.1[k]).q.2.1<t.2.1) {w2:bt} (IE:eV (pt w k m') f said=w2) :
  wo (R+1) (S+((j:Nat):Int)) ms (iV (iV w2 (w2.2.2.2.1++de w2.2.2.1 f.1 said)) ((w2.2.2.2.1++de w2.2.2.1 f.1 said)++[ff (il w2.1 w2.2.1 f.1) nx])):=by
 have nk:k<ms.length:=by rw [←h.len];exact hk
 obtain ⟨r1,r2,r3,r4⟩:=Pw h hR hf ht hk yw (by rw [←Kz] at hr;exact hr);have t1:t.2.1=((R:Nat):Int):=by rw [←Kz];exact r3
 have t2:t.2.2.1=S:=by rw [←Kz];exact r4
 have hs:∀x∈said,x.1≤S+((j:Nat):Int):=fun x hx=>by
  rw [H.said] at hx;rcases List.mem_append.1 hx with hx | hx
  ·have:=(hR.px k hk).items x (Fe hx);omega
  ·obtain ⟨i,hi,rfl⟩:=vM hx;show t.2.2.1+((i+1:Nat):Int)≤_;omega
 have hm:yE (R+1) (S+((j:Nat):Int)) ms.length k m':=⟨fun x hx=>by
   rw [H.items] at hx;rcases Fc _ hx with hx | hx
   ·obtain ⟨i,hi,rfl⟩:=vM hx;show t.2.2.1+((i+1:Nat):Int)≤_;omega
   ·have:=(hR.px k hk).items x hx;omega,R,by rw [H.round.1,t1],by omega,fun r _ h2 _=>by omega,.inr ⟨r1,r2,by show ((m'.q.q.1,m'.q.q.2.1,m'.q.q.2.2.1,m'.q.q.2.2.2.1,m'.q.q.2.2.2.2.1,m'.q.q.q.1,()):kY).2.1=_;rw [H.last,H.next.2.1,t1];omega,fun _=>by show ((m'.q.q.1,m'.q.q.2.1,m'.q.q.2.2.1,m'.q.q.2.2.2.1,m'.q.q.2.2.2.2.1,m'.q.q.q.1,()):kY).2.2.1=_;rw [H.last,H.next.2.2,t2]⟩⟩
 have hW:wo (R+1) (S+((j:Nat):Int)) ms w2:=by
  rw [←IE];refine { Bn:=fun g hg=>(hR.Bn g hg).up,px:=fun i hi => ?_,said:=fun x hx => ?_ }
  ·have hi:i<(w.2.2.1.set k m').length:=hi;show yE _ _ ms.length i (w.2.2.1.set k m')[i];rw [List.getElem_set];rw [List.length_set] at hi
   split
   ·rename_i e;subst e;exact hm
   ·rename_i e;have hM:=hR.px i hi;obtain ⟨q,q1,q2,q3,q4⟩:=hM.last;refine ⟨fun x hx=>by have:=hM.items x hx;omega,q,q1,by omega,fun r a b g => ?_,?_⟩
    ·by_cases e2:r<R
     ·exact q3 r a e2 g
     ·have:r=R:=by omega
      subst this;exact absurd (r2.symm.trans g) e
    ·rcases q4 with q4 | ⟨g1,g2,g3,g4⟩
     ·exact .inl q4
     ·exact .inr ⟨g1,g2,g3,fun e=>by omega⟩
  ·have hx:x∈w.q.1++sC f said:=hx;rcases List.mem_append.1 hx with hx | hx
   ·have:=hR.said x hx;omega
   ·exact hs x (List.mem_filter.1 hx).1
 refine hW.Bo fun g hg => ?_
 rcases List.mem_append.1 hg with hg | hg
 ·rcases List.mem_append.1 hg with hg | hg
  ·exact hW.Bn g hg
  ·exact VQ hs g hg
 ·rw [List.mem_singleton] at hg;subst hg;have e1:w2.1=c:=by rw [←IE];exact h.self.1
  have e2:w2.2.1=ms:=by rw [←IE];exact h.self.2
  rw [e1,e2,←yw,h.ids k hk nk];exact afo h.ring nk r1 r2 (Nat.le_refl _) (by rw [H.next.2.1,t1];omega) (fun _=>by rw [H.next.2.2,t2])
theorem Pz {n:Nat} {c:Int} {ms:dF} {w:bt} (h:fZ n c ms w) (hn:n≤1000) {f:mh} (hf:Sn f):∃a w',iR w.1 w.2.1 w.2.2.1 w.2.2.2.1 w.2.2.2.2.1 w.q.1 f.1 f.2.1 f.2.2.1 f.2.2.2.1 f.2.2.2.2.1 f.q.1 f.q.2.1 f.q.2.2.1 f.q.2.2.2.1 f.q.2.2.2.2.1 f.q.q.1 f.q.q.2.1=some (a,w'.1,w'.2.1,w'.2.2.1,w'.2.2.2.1,w'.2.2.2.2.1,w'.q.1,())∧fZ (n+1) c ms w'∧∀R S,wo R S ms w→FY R S ms f→∃R' S',wo R' S' ms w':=by
 obtain ⟨q0,q1,q2⟩:=h.Dp;have ZT:=h.wv;obtain ⟨a,e1,hq⟩:=Mk w (by omega) f.1;unfold iR
 try simp only [cX]
 simp only [e1,Option.bind_some];rcases hq with ⟨rfl,_⟩ | ⟨k,hk,rfl,yw⟩
 ·exact ⟨1,w,rfl,h.up (Nat.le_succ n),fun R S hR _=>⟨R,S,hR⟩⟩
 obtain ⟨hm,hc,hr⟩:=h.pw _ (List.getElem_mem hk);have hi:=(cm _ hm.items).1;simp only [ai (show ¬((k:Nat):Int)<0 by omega),cond_false,ak,cond_true,az,List.getElem?_eq_getElem hk,Option.bind_some]
 cases ht:f.2.1
 ·have hx:=hf.item ht;have e2:=(E8 w.2.2.1[k] (f.q.2.2.2.1,f.q.2.2.2.2.1,f.q.q.1,f.q.q.2.1,()) (Nat.le_trans hm.small (by decide))).1;rw [Hc hm hx] at e2;have e3:=pv w (by omega) hk (ra w.2.2.1[k] (m8 (w.2.2.1[k]).2.2.2.1 (f.q.2.2.2.1,f.q.2.2.2.2.1,f.q.q.1,f.q.q.2.1,())));refine ⟨0,pt w k (ra w.2.2.1[k] (m8 (w.2.2.1[k]).2.2.2.1 (f.q.2.2.2.1,f.q.2.2.2.2.1,f.q.q.1,f.q.q.2.1,()))),?_,(h.px hk (Fo hm hx) rfl rfl rfl).up (Nat.le_succ n),fun R S hR hN=>⟨R,S,hR.Sq hk (Pv (hR.px k hk) (hN.item ht))⟩⟩;simp only [Bool.not_false,cond_true];rw [e2];simp only [Option.bind_some];rw [e3];rfl
 ·have hT:=hf.tok ht;simp only [Bool.not_true,cond_false];generalize ht':((f.2.2.1,f.2.2.2.1,f.2.2.2.2.1,f.q.1,f.q.2.1,f.q.2.2.1,()):kY)=t at hT;have Kz:(f.2.2.1,f.2.2.2.1,f.2.2.2.2.1,f.q.1,f.q.2.1,f.q.2.2.1,())=t:=ht'
  cases hh:G9 w.2.2.1[k] t
  ·have e2:=(Np w.2.2.1[k] t (Nat.le_trans hm.small (by decide)) (Nat.le_trans hT.q.1 (by decide)) hh).2;subst Kz;rw [e2];exact ⟨1,w,rfl,h.up (Nat.le_succ n),fun R S hR _=>⟨R,S,hR⟩⟩
  ·unfold G9 at hh;simp only [Bool.and_eq_true,decide_eq_true_eq] at hh;obtain ⟨m',said,j,nx,H,_,e2⟩:=No w.2.2.1[k] t hm hT hh.2.2.1 hh.2.2.2.1 hh.2.2.2.2;have VR:∀x∈said,mg x:=fun x hx=>by
    rw [H.said] at hx;rcases List.mem_append.1 hx with hx | hx
    ·exact q9 hm.items x (Fe hx)
    ·exact xB ⟨hT.2.2.1.1,H.wv.2.2⟩ hm.id H.wv.2.1 hm.short x hx
   have hlen:said.length≤63:=by
    rw [H.said,List.length_append,j3];have:=Ff t (w.2.2.1[k]).2.2.2.1;have:=H.wv.1;omega
   have hs:=h.said;have e3:=pv w (by omega) hk m';have hW:=h.px hk H.nq H.id.1 H.id.2.1 H.id.2.2;have PL:=Bp f said;have e4:=Py (pt w k m') f said nx (by show w.q.1.length≤_;omega) (by omega);generalize IE:eV (pt w k m') f said=w2 at e4;have p1:w2.2.2.1=w.2.2.1.set k m':=by rw [←IE];rfl
   have p2:w2.2.2.2.1=w.2.2.2.1:=by rw [←IE];rfl
   have p3:w2.2.1=w.2.1:=by rw [←IE];rfl
   have hW2:fZ (n+1) c ms w2:=by
    rw [←IE];exact { hW.up (Nat.le_succ n) with
     said:=⟨fun x hx=>by
      have hx:x∈w.q.1++sC f said:=hx;rcases List.mem_append.1 hx with hx | hx
      ·exact hs.1 x hx
      ·exact VR x (List.mem_filter.1 hx).1,by
      show (w.q.1++sC f said).length≤_;rw [List.length_append];omega⟩ }
   have hm5:w2.2.2.1.length≤5:=by rw [p1,List.length_set];exact q0
   have e5:=Fk w2 f.1 said hm5 (by rw [p2];omega) (by omega);have SS:=mZ w2.2.2.1 f.1 5 hm5 said;have hl6:(w2.2.2.2.1++de w2.2.2.1 f.1 said).length≤w.2.2.2.1.length+315:=by rw [List.length_append,p2];omega
   have e6:=Ct (iV w2 (w2.2.2.2.1++de w2.2.2.1 f.1 said)) f.1 nx (by show w2.2.1.length≤_;rw [p3];omega) (by show (w2.2.2.2.1++de w2.2.2.1 f.1 said).length≤_;omega) (Nat.le_trans H.tq.q.1 (by decide));refine ⟨0,iV (iV w2 (w2.2.2.2.1++de w2.2.2.1 f.1 said)) ((w2.2.2.2.1++de w2.2.2.1 f.1 said)++[ff (il w2.1 w2.2.1 f.1) nx]),?_,(hW2.Bo (fun g hg => ?_) ?_),fun R S hR hN=>⟨R+1,_,Ss h hR hN ht hk yw Kz H hh.2.2.2.1 IE⟩⟩
   ·subst Kz;rw [e2];simp only [Option.bind_some,Bool.not_true,cond_false];rw [e3];simp only [Option.bind_some];have e4':=e4;simp only [e4,bO,Option.bind_some];rw [show f.2.1=true from ht] at e4;rw [e4];simp only [Option.bind_some];rw [e5];simp only [Option.bind_some];rw [e6];rfl
   ·rcases List.mem_append.1 hg with hg | hg
    ·rcases List.mem_append.1 hg with hg | hg
     ·rw [p2] at hg;exact h.Bn g hg
     ·exact Hb VR g hg
    ·rw [List.mem_singleton] at hg;subst hg;exact Fm H.tq
   ·rw [List.length_append,List.length_singleton];omega
abbrev Bq:Type:=Int×Int×Int×Int×ByteArray×Unit
structure Mm (ms:dF) (e:Bq):Prop where
 kind:1≤e.1∧e.1≤7
 id:(e.2.1,())∈ms
 at_:0≤e.2.2.1
 ZU:e.1=1→(1≤e.2.2.2.1∧e.2.2.2.1≤2)∧ByteArray.size e.2.2.2.2.1≤60
 no:e.1≠1→e.2.2.2.1=0∧e.2.2.2.2.1=ByteArray.empty
theorem jU {c:Int} {ms:dF} (hr:qt c ms) {e:Bq} (he:Mm ms e):mR c ms e.1 e.2.1 e.2.2.1 e.2.2.2.1 e.2.2.2.2.1=some (true,()):=by
 have hl:=hr.2.1.2;unfold mR;simp only [(ig c ms (by omega)).1,(ig c ms (by omega)).2.2.2 hr,Option.bind_some,Bool.not_true,cond_false,n5,af he.kind.1,af he.kind.2,Bool.and_self,Bg ms e.2.1 (by omega),af he.id,ai (show ¬e.2.2.1<0 by have:=he.at_;omega)]
 by_cases h1:e.1=1
 ·obtain ⟨⟨a1,a2⟩,a3⟩:=he.ZU h1;rw [af h1,af a1,af a2,af (show ((ByteArray.size e.2.2.2.2.1:Nat):Int)≤60 by omega)];rfl
 ·obtain ⟨a1,a2⟩:=he.no h1;rw [ai h1,af a1,a2];show some (kM ByteArray.empty ByteArray.empty,())=_;rw [bS]
theorem UF {n:Nat} {c:Int} {ms:dF} {w:bt} (h:fZ n c ms w) (hn:n≤1000) {e:Bq} (he:Mm ms e):∃a w',ou w.1 w.2.1 w.2.2.1 w.2.2.2.1 w.2.2.2.2.1 w.q.1 e.1 e.2.1 e.2.2.1 e.2.2.2.1 e.2.2.2.2.1=some (a,w'.1,w'.2.1,w'.2.2.1,w'.2.2.2.1,w'.2.2.2.2.1,w'.q.1,())∧fZ (n+1) c ms w'∧Ip ms w w':=by
 obtain ⟨q0,q1,q2⟩:=h.Dp;have ZT:=h.wv;obtain ⟨a,e1,hq⟩:=Mk w (by omega) e.2.1;have hq:∃k,∃hk:k<w.2.2.1.length,a=((k:Nat):Int)∧(w.2.2.1[k]).1=e.2.1:=by
  rcases hq with ⟨_,g⟩ | g
  ·obtain ⟨j,hj,ej⟩:=List.mem_iff_getElem.1 he.id;have JK:j<w.2.2.1.length:=by rw [h.len];exact hj
   exact absurd ((h.ids j JK hj).trans (congrArg Prod.fst ej)) (g j JK)
  ·exact g
 obtain ⟨k,hk,rfl,yw⟩:=hq;obtain ⟨hm,hc,hr⟩:=h.pw _ (List.getElem_mem hk);unfold ou
 try simp only [cX]
 simp only [e1,Option.bind_some]
 by_cases k1:e.1=1
 ·obtain ⟨a1,a2⟩:=he.ZU k1;have e2:=(Kj w.2.2.1[k] e.2.2.2.1 e.2.2.2.2.1 (Nat.le_trans hm.small (by decide))).1;simp only [af k1,cond_true,ak,az,List.getElem?_eq_getElem hk,Option.bind_some];rw [e2];simp only [Option.bind_some]
  cases hb:(jj w.2.2.1[k] e.2.2.2.1 e.2.2.2.2.1).2
  ·exact ⟨1,w,rfl,h.up (Nat.le_succ n),fun R S hR=>⟨R,S,hR⟩⟩
  ·have Iq:Ki w.2.2.1[k] e.2.2.2.1 e.2.2.2.2.1=true:=by
    unfold jj at hb
    cases hm2:Ki w.2.2.1[k] e.2.2.2.1 e.2.2.2.2.1
    ·rw [hm2] at hb;cases hb
    ·rfl
   have hs:(jj w.2.2.1[k] e.2.2.2.1 e.2.2.2.2.1).1=Fi w.2.2.1[k] e.2.2.2.1 e.2.2.2.2.1:=by unfold jj;rw [Iq];rfl
   unfold Ki at Iq;simp only [Bool.and_eq_true,decide_eq_true_eq] at Iq;have e3:=pv w (by omega) hk (Fi w.2.2.1[k] e.2.2.2.1 e.2.2.2.2.1);rw [hs];simp only [Bool.not_true,cond_false];rw [e3];exact ⟨0,_,rfl,(h.px hk (Nq hm a1 a2 Iq.2.2.2) rfl rfl rfl).up (Nat.le_succ n),fun R S hR=>⟨R,S,hR.Sq hk ((hR.px k hk).same rfl rfl rfl)⟩⟩
 by_cases k7:e.1=7
 ·obtain ⟨w',e2,hw⟩:=Px h (by omega) hk;simp only [ai k1,af k7,cond_true,cond_false];rw [e2];exact ⟨0,w',rfl,hw⟩
 by_cases k6:e.1=6
 ·obtain ⟨b,w',e2,hw⟩:=Ml h hn hk;simp only [ai k1,ai k7,af k6,cond_true,cond_false];rw [e2];exact ⟨b,w',rfl,hw⟩
 simp only [ai k1,ai k7,ai k6,cond_false]
 by_cases h0:w.2.2.2.1.length=0
 ·rw [af (show ((List.length w.2.2.2.1:Nat):Int)=0 by omega)];exact ⟨1,w,rfl,h.up (Nat.le_succ n),fun R S hR=>⟨R,S,hR⟩⟩
 obtain ⟨i,hi⟩:=Int.eq_ofNat_of_zero_le he.at_;have bQ:i % w.2.2.2.1.length<w.2.2.2.1.length:=Nat.mod_lt _ (by omega);generalize hj:i % w.2.2.2.1.length=j at bQ;have et:Int.tmod e.2.2.1 ((List.length w.2.2.2.1:Nat):Int)=((j:Nat):Int):=by rw [hi,←hj];exact xZ _ _
 have hF:=h.Bn _ (List.getElem_mem bQ);simp only [ai (show ¬((List.length w.2.2.2.1:Nat):Int)=0 by omega),cond_false,et,ak,az,List.getElem?_eq_getElem bQ,Option.bind_some,cond_true]
 by_cases k5:e.1=5
 ·simp only [af k5,cond_true,aJ (show (0+w.2.2.2.1.length)*120≤lim by unfold lim;omega),List.nil_append,aJ (show (w.2.2.2.1.length+1)*120≤lim by unfold lim;omega)];refine ⟨0,iV w (w.2.2.2.1++[w.2.2.2.1[j]]),rfl,(h.up (Nat.le_succ n)).Bo (fun f hf => ?_) ?_,fun R S hR=>⟨R,S,hR.Bo fun f hf => ?_⟩⟩
  ·rcases List.mem_append.1 hf with hf | hf
   ·exact h.Bn f hf
   ·rw [List.mem_singleton] at hf;subst hf;exact hF
  ·rw [List.length_append,List.length_singleton];omega
  ·rcases List.mem_append.1 hf with hf | hf
   ·exact hR.Bn f hf
   ·rw [List.mem_singleton] at hf;subst hf;exact hR.Bn _ (List.getElem_mem bQ)
 have MH:(List.take j w.2.2.2.1).length≤w.2.2.2.1.length:=by rw [List.length_take];omega
 have PL:(List.drop (j+1) w.2.2.2.1).length≤w.2.2.2.1.length:=by rw [List.length_drop];omega
 have hW:fZ n c ms (iV w (List.take j w.2.2.2.1++List.drop (j+1) w.2.2.2.1)):=h.Bo (fun f hf=>by
  rcases List.mem_append.1 hf with hf | hf
  ·exact h.Bn f (List.mem_of_mem_take hf)
  ·exact h.Bn f (List.mem_of_mem_drop hf)) (by rw [List.length_append,List.length_take,List.length_drop];omega)
 have afq:∀R S,wo R S ms w→wo R S ms (iV w (List.take j w.2.2.2.1++List.drop (j+1) w.2.2.2.1)):=fun R S hR=>hR.Bo fun f hf=>by
  rcases List.mem_append.1 hf with hf | hf
  ·exact hR.Bn f (List.mem_of_mem_take hf)
  ·exact hR.Bn f (List.mem_of_mem_drop hf)
 obtain ⟨b,w',e2,hw,ue⟩:=Pz hW hn hF;have e2:iR w.1 w.2.1 w.2.2.1 (List.take j w.2.2.2.1++List.drop (j+1) w.2.2.2.1) w.2.2.2.2.1 w.q.1 (w.2.2.2.1[j]).1 (w.2.2.2.1[j]).2.1 (w.2.2.2.1[j]).2.2.1 (w.2.2.2.1[j]).2.2.2.1 (w.2.2.2.1[j]).2.2.2.2.1 (w.2.2.2.1[j]).q.1 (w.2.2.2.1[j]).q.2.1 (w.2.2.2.1[j]).q.2.2.1 (w.2.2.2.1[j]).q.2.2.2.1 (w.2.2.2.1[j]).q.2.2.2.2.1 (w.2.2.2.1[j]).q.q.1 (w.2.2.2.1[j]).q.q.2.1=some (b,w'.1,w'.2.1,w'.2.2.1,w'.2.2.2.1,w'.2.2.2.2.1,w'.q.1,()):=e2;simp only [ai k5,cond_false,af (show ((j:Nat):Int)≤((List.length w.2.2.2.1:Nat):Int) by omega),cond_true,List.drop_zero,List.nil_append,aE (show j<4611686018427387904 by omega),ak,az,
  af (show (((j+1:Nat)):Int)≤((List.length w.2.2.2.1:Nat):Int) by omega),aJ (show (0+(List.take j w.2.2.2.1).length)*120≤lim by unfold lim;omega),aJ (show ((List.take j w.2.2.2.1).length+(List.drop (j+1) w.2.2.2.1).length)*120≤lim by unfold lim;omega),cX]
 by_cases k4:e.1=4
 ·rw [af k4];exact ⟨0,_,rfl,hW.up (Nat.le_succ n),fun R S hR=>⟨R,S,afq R S hR⟩⟩
 ·rw [ai k4,e2];exact ⟨b,w',rfl,hw,fun R S hR=>ue R S (afq R S hR) (hR.Bn _ (List.getElem_mem bQ))⟩
end Go.TM
