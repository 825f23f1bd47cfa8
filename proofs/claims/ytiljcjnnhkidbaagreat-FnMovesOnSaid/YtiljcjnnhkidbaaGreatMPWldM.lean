/- The world's life, as the reference plays it: every deed. -/
import Derived.Test.YtiljcjnnhkidbaaGreatMPWldL
set_option linter.unusedSimpArgs false
set_option linter.unusedVariables false
namespace Go.TM
open Go
def IX (d:bZ) (id:Int) (l:aV):aV:=l.filter fun x=>decide (x.2.1=id)
theorem OU (d:bZ) (id:Int) (l:aV):(IX d id l).length≤l.length:=List.length_filter_le _ _
theorem X6 (w:mr) (id:Int) (d:bZ) (hl:(d.2.2.2.2.2.1).length≤1048576) :
  aJ jA (w.1,w.2.1,w.2.2.1,w.2.2.2.1,id,d.1,d.2.1,d.2.2.1,d.2.2.2.1,d.2.2.2.2.1,d.2.2.2.2.2.1,d.2.2.2.2.2.2.1,d.2.2.2.2.2.2.2.1,d.2.2.2.2.2.2.2.2.1,d.2.2.2.2.2.2.2.2.2.1,d.2.2.2.2.2.2.2.2.2.2.1,d.2.2.2.2.2.2.2.2.2.2.2.1,d.2.2.2.2.2.2.2.2.2.2.2.2.1,d.2.2.2.2.2.2.2.2.2.2.2.2.2.1,d.2.2.2.2.2.2.2.2.2.2.2.2.2.2.1,d.2.2.2.2.2.2.2.2.2.2.2.2.2.2.2.1,d.2.2.2.2.2.2.2.2.2.2.2.2.2.2.2.2.1,d.2.2.2.2.2.2.2.2.2.2.2.2.2.2.2.2.2.1,d.2.2.2.2.2.2.2.2.2.2.2.2.2.2.2.2.2.2.1,d.2.2.2.2.2.2.2.2.2.2.2.2.2.2.2.2.2.2.2.1,d.2.2.2.2.2.2.2.2.2.2.2.2.2.2.2.2.2.2.2.2.1,d.2.2.2.2.2.2.2.2.2.2.2.2.2.2.2.2.2.2.2.2.2.1,d.2.2.2.2.2.2.2.2.2.2.2.2.2.2.2.2.2.2.2.2.2.2.1,d.2.2.2.2.2.2.2.2.2.2.2.2.2.2.2.2.2.2.2.2.2.2.2.1,[],(0:Int),())=some (.inl (w.1,w.2.1,w.2.2.1,w.2.2.2.1,id,d.1,d.2.1,d.2.2.1,d.2.2.2.1,d.2.2.2.2.1,d.2.2.2.2.2.1,d.2.2.2.2.2.2.1,d.2.2.2.2.2.2.2.1,d.2.2.2.2.2.2.2.2.1,d.2.2.2.2.2.2.2.2.2.1,d.2.2.2.2.2.2.2.2.2.2.1,d.2.2.2.2.2.2.2.2.2.2.2.1,d.2.2.2.2.2.2.2.2.2.2.2.2.1,d.2.2.2.2.2.2.2.2.2.2.2.2.2.1,d.2.2.2.2.2.2.2.2.2.2.2.2.2.2.1,d.2.2.2.2.2.2.2.2.2.2.2.2.2.2.2.1,d.2.2.2.2.2.2.2.2.2.2.2.2.2.2.2.2.1,d.2.2.2.2.2.2.2.2.2.2.2.2.2.2.2.2.2.1,d.2.2.2.2.2.2.2.2.2.2.2.2.2.2.2.2.2.2.1,d.2.2.2.2.2.2.2.2.2.2.2.2.2.2.2.2.2.2.2.1,d.2.2.2.2.2.2.2.2.2.2.2.2.2.2.2.2.2.2.2.2.1,d.2.2.2.2.2.2.2.2.2.2.2.2.2.2.2.2.2.2.2.2.2.1,d.2.2.2.2.2.2.2.2.2.2.2.2.2.2.2.2.2.2.2.2.2.2.1,d.2.2.2.2.2.2.2.2.2.2.2.2.2.2.2.2.2.2.2.2.2.2.2.1,IX d id d.2.2.2.2.2.1,())):=by
 have l1:=ck (round:=jA) (e:=.inl (w.1,w.2.1,w.2.2.1,w.2.2.2.1,id,d.1,d.2.1,d.2.2.1,d.2.2.2.1,d.2.2.2.2.1,d.2.2.2.2.2.1,d.2.2.2.2.2.2.1,d.2.2.2.2.2.2.2.1,d.2.2.2.2.2.2.2.2.1,d.2.2.2.2.2.2.2.2.2.1,d.2.2.2.2.2.2.2.2.2.2.1,d.2.2.2.2.2.2.2.2.2.2.2.1,d.2.2.2.2.2.2.2.2.2.2.2.2.1,d.2.2.2.2.2.2.2.2.2.2.2.2.2.1,d.2.2.2.2.2.2.2.2.2.2.2.2.2.2.1,d.2.2.2.2.2.2.2.2.2.2.2.2.2.2.2.1,d.2.2.2.2.2.2.2.2.2.2.2.2.2.2.2.2.1,d.2.2.2.2.2.2.2.2.2.2.2.2.2.2.2.2.2.1,d.2.2.2.2.2.2.2.2.2.2.2.2.2.2.2.2.2.2.1,d.2.2.2.2.2.2.2.2.2.2.2.2.2.2.2.2.2.2.2.1,d.2.2.2.2.2.2.2.2.2.2.2.2.2.2.2.2.2.2.2.2.1,d.2.2.2.2.2.2.2.2.2.2.2.2.2.2.2.2.2.2.2.2.2.1,d.2.2.2.2.2.2.2.2.2.2.2.2.2.2.2.2.2.2.2.2.2.2.1,d.2.2.2.2.2.2.2.2.2.2.2.2.2.2.2.2.2.2.2.2.2.2.2.1,IX d id d.2.2.2.2.2.1,())) (d.2.2.2.2.2.1).length (fun k=>(w.1,w.2.1,w.2.2.1,w.2.2.2.1,id,d.1,d.2.1,d.2.2.1,d.2.2.2.1,d.2.2.2.2.1,d.2.2.2.2.2.1,d.2.2.2.2.2.2.1,d.2.2.2.2.2.2.2.1,d.2.2.2.2.2.2.2.2.1,d.2.2.2.2.2.2.2.2.2.1,d.2.2.2.2.2.2.2.2.2.2.1,d.2.2.2.2.2.2.2.2.2.2.2.1,d.2.2.2.2.2.2.2.2.2.2.2.2.1,d.2.2.2.2.2.2.2.2.2.2.2.2.2.1,d.2.2.2.2.2.2.2.2.2.2.2.2.2.2.1,d.2.2.2.2.2.2.2.2.2.2.2.2.2.2.2.1,d.2.2.2.2.2.2.2.2.2.2.2.2.2.2.2.2.1,d.2.2.2.2.2.2.2.2.2.2.2.2.2.2.2.2.2.1,d.2.2.2.2.2.2.2.2.2.2.2.2.2.2.2.2.2.2.1,d.2.2.2.2.2.2.2.2.2.2.2.2.2.2.2.2.2.2.2.1,d.2.2.2.2.2.2.2.2.2.2.2.2.2.2.2.2.2.2.2.2.1,d.2.2.2.2.2.2.2.2.2.2.2.2.2.2.2.2.2.2.2.2.2.1,d.2.2.2.2.2.2.2.2.2.2.2.2.2.2.2.2.2.2.2.2.2.2.1,d.2.2.2.2.2.2.2.2.2.2.2.2.2.2.2.2.2.2.2.2.2.2.2.1,IX d id ((d.2.2.2.2.2.1).take k),((k:Nat):Int),())) (by
  simp only [jA,az,aP,rJ,aA,aM,cond_false,List.take_length]) (fun k hk=>by
  have hb:=OU d id ((d.2.2.2.2.2.1).take k);rw [List.length_take] at hb;have e:IX d id ((d.2.2.2.2.2.1).take (k+1))=IX d id ((d.2.2.2.2.2.1).take k)++(bif decide ((d.2.2.2.2.2.1)[k].2.1=id) then [(d.2.2.2.2.2.1)[k]] else []):=by
   unfold IX;rw [List.take_succ_eq_append_getElem hk,List.filter_append,List.filter_cons,List.filter_nil]
   cases decide ((d.2.2.2.2.2.1)[k].2.1=id)<;>rfl
  simp only [jA,az,aP,rJ,aA,e,aE hk,ax,cond_true,aF,List.getElem?_eq_getElem hk,Option.bind_some,aT (show ((IX d id ((d.2.2.2.2.2.1).take k)).length+1)*40≤lim by unfold lim;omega),aN (show k<4611686018427387904 by omega)]
  cases decide ((d.2.2.2.2.2.1)[k].2.1=id)
  ·simp only [cond_false,List.append_nil]
  ·rfl)
 exact l1
theorem OW {n:Nat} {w:mr} (h:jY n w) (hn:n≤98) {k:Nat} (hk:k<w.2.1.length):∃a w',sm w.1 w.2.1 w.2.2.1 w.2.2.2.1 ((k+1:Nat):Int)=some (a,w'.1,w'.2.1,w'.2.2.1,w'.2.2.2.1,())∧jY (n+1) w':=by
 have hf:=h.GR;have h5:=h.Ai;obtain ⟨hd,wo⟩:=h.Gq k hk;generalize hdd:w.2.1[k]=d at hd wo;have hW:=hd.small (by omega);have e1:ft d.1 d.2.1 d.2.2.1 d.2.2.2.1 d.2.2.2.2.1 d.2.2.2.2.2.1 d.2.2.2.2.2.2.1 d.2.2.2.2.2.2.2.1 d.2.2.2.2.2.2.2.2.1 d.2.2.2.2.2.2.2.2.2.1 d.2.2.2.2.2.2.2.2.2.2.1 d.2.2.2.2.2.2.2.2.2.2.2.1 d.2.2.2.2.2.2.2.2.2.2.2.2.1 d.2.2.2.2.2.2.2.2.2.2.2.2.2.1 d.2.2.2.2.2.2.2.2.2.2.2.2.2.2.1 d.2.2.2.2.2.2.2.2.2.2.2.2.2.2.2.1 d.2.2.2.2.2.2.2.2.2.2.2.2.2.2.2.2.1 d.2.2.2.2.2.2.2.2.2.2.2.2.2.2.2.2.2.1 d.2.2.2.2.2.2.2.2.2.2.2.2.2.2.2.2.2.2.1 d.2.2.2.2.2.2.2.2.2.2.2.2.2.2.2.2.2.2.2.1 d.2.2.2.2.2.2.2.2.2.2.2.2.2.2.2.2.2.2.2.2.1 d.2.2.2.2.2.2.2.2.2.2.2.2.2.2.2.2.2.2.2.2.2.1 d.2.2.2.2.2.2.2.2.2.2.2.2.2.2.2.2.2.2.2.2.2.2.1 d.2.2.2.2.2.2.2.2.2.2.2.2.2.2.2.2.2.2.2.2.2.2.2.1=some (fZ d,()):=x4 d hW;have e2:fy d.2.2.2.2.2.2.2.2.2.2.2.2.1 d.2.2.2.2.2.2.2.2.2.2.2.2.2.1 d.2.2.2.2.2.2.2.2.2.2.2.2.2.2.1 d.2.2.2.2.2.2.2.2.2.2.2.2.2.2.2.1 d.2.2.2.2.2.2.2.2.2.2.2.2.2.2.2.2.1 d.2.2.2.2.2.2.2.2.2.2.2.2.2.2.2.2.2.1=some (wg (d.2.2.2.2.2.2.2.2.2.2.2.2.1,d.2.2.2.2.2.2.2.2.2.2.2.2.2.1,d.2.2.2.2.2.2.2.2.2.2.2.2.2.2.1,d.2.2.2.2.2.2.2.2.2.2.2.2.2.2.2.1,d.2.2.2.2.2.2.2.2.2.2.2.2.2.2.2.2.1,d.2.2.2.2.2.2.2.2.2.2.2.2.2.2.2.2.2.1,()),()):=(wh (d.2.2.2.2.2.2.2.2.2.2.2.2.1,d.2.2.2.2.2.2.2.2.2.2.2.2.2.1,d.2.2.2.2.2.2.2.2.2.2.2.2.2.2.1,d.2.2.2.2.2.2.2.2.2.2.2.2.2.2.2.1,d.2.2.2.2.2.2.2.2.2.2.2.2.2.2.2.2.1,d.2.2.2.2.2.2.2.2.2.2.2.2.2.2.2.2.2.1,())).1;unfold sm;delta az aw aP bI;simp only [wk (show k<1000 by omega),ax,cond_true,aF,List.getElem?_eq_getElem hk,Option.bind_some,hdd,e1]
 cases hi:fZ d
 ·exact ⟨1,w,rfl,h.up (Nat.le_succ n)⟩
 simp only [Bool.not_true,cond_false];rw [e2];simp only [Option.bind_some]
 cases hb:wg (d.2.2.2.2.2.2.2.2.2.2.2.2.1,d.2.2.2.2.2.2.2.2.2.2.2.2.2.1,d.2.2.2.2.2.2.2.2.2.2.2.2.2.2.1,d.2.2.2.2.2.2.2.2.2.2.2.2.2.2.2.1,d.2.2.2.2.2.2.2.2.2.2.2.2.2.2.2.2.1,d.2.2.2.2.2.2.2.2.2.2.2.2.2.2.2.2.2.1,())
 case true=>exact ⟨1,w,rfl,h.up (Nat.le_succ n)⟩
 obtain ⟨m1,m2,_,_⟩:=uZ hW hi;have hT:Mq (d.2.2.2.2.2.2.2.2.2.2.2.2.1,d.2.2.2.2.2.2.2.2.2.2.2.2.2.1,d.2.2.2.2.2.2.2.2.2.2.2.2.2.2.1,d.2.2.2.2.2.2.2.2.2.2.2.2.2.2.2.1,d.2.2.2.2.2.2.2.2.2.2.2.2.2.2.2.2.1,d.2.2.2.2.2.2.2.2.2.2.2.2.2.2.2.2.2.1,()):=by
  rcases m1.last with q | q
  ·have:=(wh (d.2.2.2.2.2.2.2.2.2.2.2.2.1,d.2.2.2.2.2.2.2.2.2.2.2.2.2.1,d.2.2.2.2.2.2.2.2.2.2.2.2.2.2.1,d.2.2.2.2.2.2.2.2.2.2.2.2.2.2.2.1,d.2.2.2.2.2.2.2.2.2.2.2.2.2.2.2.2.1,d.2.2.2.2.2.2.2.2.2.2.2.2.2.2.2.2.2.1,())).2.2.2 q;rw [hb] at this;cases this
  ·exact q
 have Un:=(dD _ m1.items).1;have Un:(d.2.2.2.2.2.1).length≤60:=Un;have l1:=X6 w ((k+1:Nat):Int) d (by omega);have Gu:(((k+1:Nat):Int),())∈(aI d).2.2.1:=by
  have h1:=m1.mem;have m2:(aI d).1=d.1:=m2;rw [m2,wo] at h1;exact h1
 obtain ⟨B7,ZR,e3⟩:=Ll w m1.ring Gu (d.2.2.2.2.2.2.2.2.2.2.2.2.1,d.2.2.2.2.2.2.2.2.2.2.2.2.2.1,d.2.2.2.2.2.2.2.2.2.2.2.2.2.2.1,d.2.2.2.2.2.2.2.2.2.2.2.2.2.2.2.1,d.2.2.2.2.2.2.2.2.2.2.2.2.2.2.2.2.1,d.2.2.2.2.2.2.2.2.2.2.2.2.2.2.2.2.2.1,()) (by omega) (Nat.le_trans hT.2.2.2.2.2.1 (by decide));have Sa:=OU d ((k+1:Nat):Int) d.2.2.2.2.2.1;have e4:=Lk (fN w (w.2.2.1++[xv B7 (aI d).2.1 (d.2.2.2.2.2.2.2.2.2.2.2.2.1,d.2.2.2.2.2.2.2.2.2.2.2.2.2.1,d.2.2.2.2.2.2.2.2.2.2.2.2.2.2.1,d.2.2.2.2.2.2.2.2.2.2.2.2.2.2.2.1,d.2.2.2.2.2.2.2.2.2.2.2.2.2.2.2.2.1,d.2.2.2.2.2.2.2.2.2.2.2.2.2.2.2.2.2.1,())])) (aI d).2.1 (aI d).2.2.1 ((k+1:Nat):Int) (IX d ((k+1:Nat):Int) d.2.2.2.2.2.1) m1.ring.2.1.2 (by show (w.2.2.1++[_]).length≤_;rw [List.length_append,List.length_singleton];omega) (by omega);have e3:mc w.1 w.2.1 w.2.2.1 w.2.2.2.1 d.2.2.2.1 d.2.2.2.2.1 ((k+1:Nat):Int) d.2.2.2.2.2.2.2.2.2.2.2.2.1 d.2.2.2.2.2.2.2.2.2.2.2.2.2.1 d.2.2.2.2.2.2.2.2.2.2.2.2.2.2.1 d.2.2.2.2.2.2.2.2.2.2.2.2.2.2.2.1 d.2.2.2.2.2.2.2.2.2.2.2.2.2.2.2.2.1 d.2.2.2.2.2.2.2.2.2.2.2.2.2.2.2.2.2.1=_:=e3;have htl:=zN (aI d).2.2.1 (aI d).2.1 ((k+1:Nat):Int) m1.ring.2.1.2 (IX d ((k+1:Nat):Int) d.2.2.2.2.2.1);refine ⟨0,fN (fN w (w.2.2.1++[xv B7 (aI d).2.1 (d.2.2.2.2.2.2.2.2.2.2.2.2.1,d.2.2.2.2.2.2.2.2.2.2.2.2.2.1,d.2.2.2.2.2.2.2.2.2.2.2.2.2.2.1,d.2.2.2.2.2.2.2.2.2.2.2.2.2.2.2.1,d.2.2.2.2.2.2.2.2.2.2.2.2.2.2.2.2.1,d.2.2.2.2.2.2.2.2.2.2.2.2.2.2.2.2.2.1,())])) ((w.2.2.1++[xv B7 (aI d).2.1 (d.2.2.2.2.2.2.2.2.2.2.2.2.1,d.2.2.2.2.2.2.2.2.2.2.2.2.2.1,d.2.2.2.2.2.2.2.2.2.2.2.2.2.2.1,d.2.2.2.2.2.2.2.2.2.2.2.2.2.2.2.1,d.2.2.2.2.2.2.2.2.2.2.2.2.2.2.2.2.1,d.2.2.2.2.2.2.2.2.2.2.2.2.2.2.2.2.2.1,())])++dA (aI d).2.2.1 (aI d).2.1 ((k+1:Nat):Int) (IX d ((k+1:Nat):Int) d.2.2.2.2.2.1)),?_,?_⟩
 ·simp only [cond_false];rw [l1];simp only [cg,Option.bind_some];rw [e3];simp only [Option.bind_some];rw [e4];rfl
 ·refine jY.fN (w:=fN w _) ((h.up (Nat.le_succ n)).fN (fun x hx => ?_) ?_) (fun x hx => ?_) ?_
  ·rcases List.mem_append.1 hx with hx | hx
   ·exact h.lets x hx
   ·rw [List.mem_singleton] at hx;subst hx;exact IW ZR hT.2.2.2.2.2.1
  ·rw [List.length_append,List.length_singleton];omega
  ·rcases List.mem_append.1 hx with hx | hx
   ·rcases List.mem_append.1 hx with hx | hx
    ·exact h.lets x hx
    ·rw [List.mem_singleton] at hx;subst hx;exact IW ZR hT.2.2.2.2.2.1
   ·exact MI m1.ring x hx
  ·rw [List.length_append,List.length_append,List.length_singleton];omega
theorem QZ {n:Nat} {w:mr} (h:jY n w) (hn:n≤98) {x:GJ} (hx:JE x):∃a w',gG w.1 w.2.1 w.2.2.1 w.2.2.2.1 x.1 x.2.1 x.2.2.1 x.2.2.2.1 x.2.2.2.2.1 x.2.2.2.2.2.1 x.2.2.2.2.2.2.1 x.2.2.2.2.2.2.2.1 x.2.2.2.2.2.2.2.2.1 x.2.2.2.2.2.2.2.2.2.1 x.2.2.2.2.2.2.2.2.2.2.1 x.2.2.2.2.2.2.2.2.2.2.2.1 x.2.2.2.2.2.2.2.2.2.2.2.2.1 x.2.2.2.2.2.2.2.2.2.2.2.2.2.1 x.2.2.2.2.2.2.2.2.2.2.2.2.2.2.1 x.2.2.2.2.2.2.2.2.2.2.2.2.2.2.2.1 x.2.2.2.2.2.2.2.2.2.2.2.2.2.2.2.2.1=some (a,w'.1,w'.2.1,w'.2.2.1,w'.2.2.2.1,())∧jY (n+1) w':=by
 have h5:=h.Ai;obtain ⟨k,hk⟩:=Int.eq_ofNat_of_zero_le (show 0≤x.2.1-1 by have:=hx.B7;omega);have ZR:x.2.1=((k+1:Nat):Int):=by omega
 have hk:k<w.2.1.length:=by have:=hx.B7;omega
 obtain ⟨hd,wo⟩:=h.Gq k hk;unfold gG;delta az;simp only [ZR,wk (show k<1000 by omega),ax,cond_true,aF,List.getElem?_eq_getElem hk,Option.bind_some]
 by_cases k1:x.1=1
 ·have e1:=(xt w.2.1[k] x.2.2.1 (x.2.2.2.1,x.2.2.2.2.1,x.2.2.2.2.2.1,x.2.2.2.2.2.2.1,()) (hd.small (by omega))).1;obtain ⟨g1,g2⟩:=QP hd (by omega) x.2.2.1 (x.2.2.2.1,x.2.2.2.2.1,x.2.2.2.2.2.1,x.2.2.2.2.2.2.1,());have e2:=pL w (by omega) hk (mV w.2.1[k] x.2.2.1 (x.2.2.2.1,x.2.2.2.2.1,x.2.2.2.2.2.1,x.2.2.2.2.2.2.1,())) (g2.trans wo);simp only [ak k1,cond_true];rw [e1];simp only [Option.bind_some];rw [e2];exact ⟨0,_,rfl,(h.up (Nat.le_succ n)).Ah hk g1 g2⟩
 by_cases k2:x.1=2
 ·obtain ⟨a,w',e1,hw⟩:=Gr h (by omega) hk (x.2.2.2.2.2.2.2.1,x.2.2.2.2.2.2.2.2.1,x.2.2.2.2.2.2.2.2.2.1,x.2.2.2.2.2.2.2.2.2.2.1,x.2.2.2.2.2.2.2.2.2.2.2.1,x.2.2.2.2.2.2.2.2.2.2.2.2.1,()) (Nat.le_trans hx.OE (by decide));simp only [aq k1,ak k2,cond_true,cond_false];rw [e1];exact ⟨a,w',rfl,hw⟩
 ·have hbl:(x.2.2.2.2.2.2.2.2.2.2.2.2.2.2.2.2.1).length≤1048576:=Nat.le_trans hx.bun (by decide);have e1:=(zJ w.2.1[k] (x.2.2.2.2.2.2.2.2.2.2.2.2.2.1,x.2.2.2.2.2.2.2.2.2.2.2.2.2.2.1,x.2.2.2.2.2.2.2.2.2.2.2.2.2.2.2.1,x.2.2.2.2.2.2.2.2.2.2.2.2.2.2.2.2.1,()) (hd.small (by omega)) hbl).1;simp only [aq k1,aq k2,cond_false];rw [e1];simp only [Option.bind_some]
  cases hb:(bz w.2.1[k] (x.2.2.2.2.2.2.2.2.2.2.2.2.2.1,x.2.2.2.2.2.2.2.2.2.2.2.2.2.2.1,x.2.2.2.2.2.2.2.2.2.2.2.2.2.2.2.1,x.2.2.2.2.2.2.2.2.2.2.2.2.2.2.2.2.1,())).2
  ·exact ⟨1,w,rfl,h.up (Nat.le_succ n)⟩
  ·obtain ⟨g1,g2,_⟩:=FD hd (by omega) (b:=(x.2.2.2.2.2.2.2.2.2.2.2.2.2.1,x.2.2.2.2.2.2.2.2.2.2.2.2.2.2.1,x.2.2.2.2.2.2.2.2.2.2.2.2.2.2.2.1,x.2.2.2.2.2.2.2.2.2.2.2.2.2.2.2.2.1,())) hbl hb;have e2:=pL w (by omega) hk (bz w.2.1[k] (x.2.2.2.2.2.2.2.2.2.2.2.2.2.1,x.2.2.2.2.2.2.2.2.2.2.2.2.2.2.1,x.2.2.2.2.2.2.2.2.2.2.2.2.2.2.2.1,x.2.2.2.2.2.2.2.2.2.2.2.2.2.2.2.2.1,())).1 (g2.trans wo);simp only [Bool.not_true,cond_false];rw [e2];exact ⟨0,_,rfl,(h.up (Nat.le_succ n)).Ah hk g1 g2⟩
abbrev GK:Type:=Int×Int×Int×Int×ByteArray×Unit
structure FG (e:GK):Prop where
 kind:1≤e.1∧e.1≤9
 id:1≤e.2.1∧e.2.1≤5
 at_:0≤e.2.2.1
 say:e.1=1→(1≤e.2.2.2.1∧e.2.2.2.1≤2)∧ByteArray.size e.2.2.2.2.1≤60
 no:e.1≠1→e.2.2.2.1=0∧e.2.2.2.2.1=ByteArray.empty
theorem MJ {n:Nat} {w:mr} (h:jY n w) (hn:n≤98) {e:GK} (he:FG e):∃a w',jP w.1 w.2.1 w.2.2.1 w.2.2.2.1 e.1 e.2.1 e.2.2.1 e.2.2.2.1 e.2.2.2.2.1=some (a,w'.1,w'.2.1,w'.2.2.1,w'.2.2.2.1,())∧jY (n+1) w':=by
 have hf:=h.GR;unfold jP;delta ba
 by_cases h0:w.2.2.1.length=0
 ·rw [ak (show ((List.length w.2.2.1:Nat):Int)=0 by omega)];exact ⟨1,w,rfl,h.up (Nat.le_succ n)⟩
 obtain ⟨i,hi⟩:=Int.eq_ofNat_of_zero_le he.at_;have dM:i % w.2.2.1.length<w.2.2.1.length:=Nat.mod_lt _ (by omega);generalize hj:i % w.2.2.1.length=j at dM;have et:Int.tmod e.2.2.1 ((List.length w.2.2.1:Nat):Int)=((j:Nat):Int):=by rw [hi,←hj];exact aaQ _ _
 have hX:=h.lets _ (List.getElem_mem dM);simp only [aq (show ¬((List.length w.2.2.1:Nat):Int)=0 by omega),cond_false,et,ax,aF,List.getElem?_eq_getElem dM,Option.bind_some,cond_true]
 by_cases k5:e.1=5
 ·have hs:=Eu w (by omega) w.2.2.1[j];simp only [ak k5,cond_true];rw [hs];refine ⟨0,_,rfl,(h.up (Nat.le_succ n)).fN (fun x hx => ?_) ?_⟩
  ·rcases List.mem_append.1 hx with hx | hx
   ·exact h.lets x hx
   ·rw [List.mem_singleton] at hx;subst hx;exact hX
  ·rw [List.length_append,List.length_singleton];omega
 have Vz:(List.take j w.2.2.1).length≤w.2.2.1.length:=by rw [List.length_take];omega
 have hl2:(List.drop (j+1) w.2.2.1).length≤w.2.2.1.length:=by rw [List.length_drop];omega
 have hW:jY n (fN w (List.take j w.2.2.1++List.drop (j+1) w.2.2.1)):=h.fN (fun x hx=>by
  rcases List.mem_append.1 hx with hx | hx
  ·exact h.lets x (List.mem_of_mem_take hx)
  ·exact h.lets x (List.mem_of_mem_drop hx)) (by rw [List.length_append,List.length_take,List.length_drop];omega)
 obtain ⟨b,w',e2,hw⟩:=QZ hW hn hX;have e2:gG w.1 w.2.1 (List.take j w.2.2.1++List.drop (j+1) w.2.2.1) w.2.2.2.1 (w.2.2.1[j]).1 (w.2.2.1[j]).2.1 (w.2.2.1[j]).2.2.1 (w.2.2.1[j]).2.2.2.1 (w.2.2.1[j]).2.2.2.2.1 (w.2.2.1[j]).2.2.2.2.2.1 (w.2.2.1[j]).2.2.2.2.2.2.1 (w.2.2.1[j]).2.2.2.2.2.2.2.1 (w.2.2.1[j]).2.2.2.2.2.2.2.2.1 (w.2.2.1[j]).2.2.2.2.2.2.2.2.2.1 (w.2.2.1[j]).2.2.2.2.2.2.2.2.2.2.1 (w.2.2.1[j]).2.2.2.2.2.2.2.2.2.2.2.1 (w.2.2.1[j]).2.2.2.2.2.2.2.2.2.2.2.2.1 (w.2.2.1[j]).2.2.2.2.2.2.2.2.2.2.2.2.2.1 (w.2.2.1[j]).2.2.2.2.2.2.2.2.2.2.2.2.2.2.1 (w.2.2.1[j]).2.2.2.2.2.2.2.2.2.2.2.2.2.2.2.1 (w.2.2.1[j]).2.2.2.2.2.2.2.2.2.2.2.2.2.2.2.2.1=some (b,w'.1,w'.2.1,w'.2.2.1,w'.2.2.2.1,()):=e2;simp only [aq k5,cond_false,ak (show ((j:Nat):Int)≤((List.length w.2.2.1:Nat):Int) by omega),cond_true,List.drop_zero,List.nil_append,aN (show j<4611686018427387904 by omega),ax,aF,
  ak (show (((j+1:Nat)):Int)≤((List.length w.2.2.1:Nat):Int) by omega),aT (show (0+(List.take j w.2.2.1).length)*176≤lim by unfold lim;omega),aT (show ((List.take j w.2.2.1).length+(List.drop (j+1) w.2.2.1).length)*176≤lim by unfold lim;omega),di]
 by_cases k4:e.1=4
 ·rw [ak k4];exact ⟨0,_,rfl,hW.up (Nat.le_succ n)⟩
 ·rw [aq k4,e2];exact ⟨b,w',rfl,hw⟩
theorem Uy {n:Nat} {d:bZ} (h:kN n d) (hn:n≤100):zb d.1 d.2.1 d.2.2.1 d.2.2.2.1 d.2.2.2.2.1 d.2.2.2.2.2.1 d.2.2.2.2.2.2.1 d.2.2.2.2.2.2.2.1 d.2.2.2.2.2.2.2.2.1 d.2.2.2.2.2.2.2.2.2.1 d.2.2.2.2.2.2.2.2.2.2.1 d.2.2.2.2.2.2.2.2.2.2.2.1 d.2.2.2.2.2.2.2.2.2.2.2.2.1 d.2.2.2.2.2.2.2.2.2.2.2.2.2.1 d.2.2.2.2.2.2.2.2.2.2.2.2.2.2.1 d.2.2.2.2.2.2.2.2.2.2.2.2.2.2.2.1 d.2.2.2.2.2.2.2.2.2.2.2.2.2.2.2.2.1 d.2.2.2.2.2.2.2.2.2.2.2.2.2.2.2.2.2.1 d.2.2.2.2.2.2.2.2.2.2.2.2.2.2.2.2.2.2.1 d.2.2.2.2.2.2.2.2.2.2.2.2.2.2.2.2.2.2.2.1 d.2.2.2.2.2.2.2.2.2.2.2.2.2.2.2.2.2.2.2.2.1 d.2.2.2.2.2.2.2.2.2.2.2.2.2.2.2.2.2.2.2.2.2.1 d.2.2.2.2.2.2.2.2.2.2.2.2.2.2.2.2.2.2.2.2.2.2.1 d.2.2.2.2.2.2.2.2.2.2.2.2.2.2.2.2.2.2.2.2.2.2.2.1=some (XZ d):=by
 have hW:=h.small hn;unfold ow at hW;unfold zb;rw [tI _ (by omega)];rfl
theorem Uz (d:bZ) (h:ow d≤1048576):BM d.1 d.2.1 d.2.2.1 d.2.2.2.1 d.2.2.2.2.1 d.2.2.2.2.2.1 d.2.2.2.2.2.2.1 d.2.2.2.2.2.2.2.1 d.2.2.2.2.2.2.2.2.1 d.2.2.2.2.2.2.2.2.2.1 d.2.2.2.2.2.2.2.2.2.2.1 d.2.2.2.2.2.2.2.2.2.2.2.1 d.2.2.2.2.2.2.2.2.2.2.2.2.1 d.2.2.2.2.2.2.2.2.2.2.2.2.2.1 d.2.2.2.2.2.2.2.2.2.2.2.2.2.2.1 d.2.2.2.2.2.2.2.2.2.2.2.2.2.2.2.1 d.2.2.2.2.2.2.2.2.2.2.2.2.2.2.2.2.1 d.2.2.2.2.2.2.2.2.2.2.2.2.2.2.2.2.2.1 d.2.2.2.2.2.2.2.2.2.2.2.2.2.2.2.2.2.2.1 d.2.2.2.2.2.2.2.2.2.2.2.2.2.2.2.2.2.2.2.1 d.2.2.2.2.2.2.2.2.2.2.2.2.2.2.2.2.2.2.2.2.1 d.2.2.2.2.2.2.2.2.2.2.2.2.2.2.2.2.2.2.2.2.2.1 d.2.2.2.2.2.2.2.2.2.2.2.2.2.2.2.2.2.2.2.2.2.2.1 d.2.2.2.2.2.2.2.2.2.2.2.2.2.2.2.2.2.2.2.2.2.2.2.1=some ((ju d).1.1,(ju d).1.2.1,(ju d).1.2.2.1,(ju d).1.2.2.2.1,(ju d).1.2.2.2.2.1,(ju d).1.2.2.2.2.2.1,(ju d).1.2.2.2.2.2.2.1,(ju d).1.2.2.2.2.2.2.2.1,(ju d).1.2.2.2.2.2.2.2.2.1,(ju d).1.2.2.2.2.2.2.2.2.2.1,(ju d).1.2.2.2.2.2.2.2.2.2.2.1,(ju d).1.2.2.2.2.2.2.2.2.2.2.2.1,(ju d).1.2.2.2.2.2.2.2.2.2.2.2.2.1,(ju d).1.2.2.2.2.2.2.2.2.2.2.2.2.2.1,(ju d).1.2.2.2.2.2.2.2.2.2.2.2.2.2.2.1,(ju d).1.2.2.2.2.2.2.2.2.2.2.2.2.2.2.2.1,(ju d).1.2.2.2.2.2.2.2.2.2.2.2.2.2.2.2.2.1,(ju d).1.2.2.2.2.2.2.2.2.2.2.2.2.2.2.2.2.2.1,(ju d).1.2.2.2.2.2.2.2.2.2.2.2.2.2.2.2.2.2.2.1,(ju d).1.2.2.2.2.2.2.2.2.2.2.2.2.2.2.2.2.2.2.2.1,(ju d).1.2.2.2.2.2.2.2.2.2.2.2.2.2.2.2.2.2.2.2.2.1,(ju d).1.2.2.2.2.2.2.2.2.2.2.2.2.2.2.2.2.2.2.2.2.2.1,(ju d).1.2.2.2.2.2.2.2.2.2.2.2.2.2.2.2.2.2.2.2.2.2.2.1,(ju d).1.2.2.2.2.2.2.2.2.2.2.2.2.2.2.2.2.2.2.2.2.2.2.2.1,(ju d).2,()):=by
 obtain ⟨k1,k2,_⟩:=j6 d h;obtain ⟨p1,p2⟩:=uJ d h;unfold BM ju;delta cV bA;simp only [k1,p1,Option.bind_some]
 cases hb:jd d
 ·rfl
 ·cases hd:d.2.1<;>rfl
theorem IY {n:Nat} {w:mr} (h:jY n w) (hn:n≤98) {e:GK} (he:FG e):∃a w',pH w.1 w.2.1 w.2.2.1 w.2.2.2.1 e.1 e.2.1 e.2.2.1 e.2.2.2.1 e.2.2.2.2.1=some (a,w'.1,w'.2.1,w'.2.2.1,w'.2.2.2.1,())∧jY (n+1) w':=by
 have h5:=h.Ai;obtain ⟨k,hk⟩:=Int.eq_ofNat_of_zero_le (show 0≤e.2.1-1 by have:=he.id;omega);have ZR:e.2.1=((k+1:Nat):Int):=by omega
 have hk:k<w.2.1.length:=by have:=he.id;omega
 obtain ⟨hd,wo⟩:=h.Gq k hk;have hW:=hd.small (by omega);unfold pH;delta az aP;simp only [ZR,wk (show k<1000 by omega),ax,cond_true,aF,List.getElem?_eq_getElem hk,Option.bind_some]
 by_cases k1:e.1=1
 ·obtain ⟨a1,a2⟩:=he.say k1;have e1:=(Ov w.2.1[k] e.2.2.2.1 e.2.2.2.2.1 hW).1;simp only [ak k1,cond_true];rw [e1];simp only [Option.bind_some]
  cases hb:(bP w.2.1[k] e.2.2.2.1 e.2.2.2.2.1).2
  ·exact ⟨1,w,rfl,h.up (Nat.le_succ n)⟩
  ·obtain ⟨g1,g2⟩:=ali hd (by omega) a1 a2 hb;have e2:=pL w (by omega) hk (bP w.2.1[k] e.2.2.2.1 e.2.2.2.2.1).1 (g2.trans wo);simp only [Bool.not_true,cond_false];rw [e2];exact ⟨0,_,rfl,(h.up (Nat.le_succ n)).Ah hk g1 g2⟩
 by_cases k2:e.1=2
 ·obtain ⟨t,b,e1,_,ht⟩:=Ei w.2.1[k] hW;simp only [aq k1,ak k2,cond_true,cond_false];rw [e1];simp only [Option.bind_some]
  cases b
  ·exact ⟨1,w,rfl,h.up (Nat.le_succ n)⟩
  ·obtain ⟨a,w',e2,hw⟩:=Gr h (by omega) hk t (by rw [ht];exact Nat.zero_le _);simp only [Bool.not_true,cond_false];rw [e2];exact ⟨a,w',rfl,hw⟩
 by_cases k6:e.1=6
 ·obtain ⟨a,w',e2,hw⟩:=OW h hn hk;simp only [aq k1,aq k2,ak k6,cond_true,cond_false];rw [e2];exact ⟨a,w',rfl,hw⟩
 by_cases k7:e.1=7
 ·obtain ⟨a,w',e2,hw⟩:=QY h hn hk;simp only [aq k1,aq k2,aq k6,ak k7,cond_true,cond_false];rw [e2];exact ⟨a,w',rfl,hw⟩
 by_cases k8:e.1=8
 ·simp only [aq k1,aq k2,aq k6,aq k7,ak k8,cond_true,cond_false]
  cases hb:(w.2.1[k]).2.1
  ·have e1:=Uy hd (by omega);have e2:=pL w (by omega) hk (XZ w.2.1[k]) wo;rw [hb] at e1;simp only [cond_false];rw [e1];simp only [Option.bind_some];rw [e2];exact ⟨0,_,rfl,(h.up (Nat.le_succ n)).Ah hk ((agt hd).up (Nat.le_succ n)) rfl⟩
  ·exact ⟨1,w,rfl,h.up (Nat.le_succ n)⟩
 by_cases k9:e.1=9
 ·have e1:=Uz w.2.1[k] hW;simp only [aq k1,aq k2,aq k6,aq k7,aq k8,ak k9,cond_true,cond_false];rw [e1];simp only [Option.bind_some]
  cases hb:(ju w.2.1[k]).2
  ·exact ⟨1,w,rfl,h.up (Nat.le_succ n)⟩
  ·obtain ⟨g1,g2⟩:=agu hd hb;have e2:=pL w (by omega) hk (ju w.2.1[k]).1 (g2.trans wo);simp only [Bool.not_true,cond_false];rw [e2];exact ⟨0,_,rfl,(h.up (Nat.le_succ n)).Ah hk (g1.up (Nat.le_succ n)) g2⟩
 ·obtain ⟨a,w',e2,hw⟩:=MJ h hn he;rw [ZR] at e2;simp only [aq k1,aq k2,aq k6,aq k7,aq k8,aq k9,cond_false];rw [e2];exact ⟨a,w',rfl,hw⟩
end Go.TM
set_option linter.unusedSimpArgs false
set_option linter.unusedVariables false
namespace Go.TM
open Go
theorem ZS {v:Int} (h:(v,())∈[((1:Int),()),(1,()),(1,()),(2,()),(3,()),(3,()),(3,()),(3,()),(3,()),(3,()),(3,()),(3,()),(3,()),(4,()),(5,()),(6,()),(7,()),(7,()),(8,()),(9,())]):1≤v∧v≤9:=by
 simp only [List.mem_cons,Prod.mk.injEq,and_true,List.not_mem_nil,or_false] at h;omega
theorem UA (d:bZ) (h:ow d≤1048576):∃(t:lT) (b:Bool),n8 d.1 d.2.1 d.2.2.1 d.2.2.2.1 d.2.2.2.2.1 d.2.2.2.2.2.1 d.2.2.2.2.2.2.1 d.2.2.2.2.2.2.2.1 d.2.2.2.2.2.2.2.2.1 d.2.2.2.2.2.2.2.2.2.1 d.2.2.2.2.2.2.2.2.2.2.1 d.2.2.2.2.2.2.2.2.2.2.2.1 d.2.2.2.2.2.2.2.2.2.2.2.2.1 d.2.2.2.2.2.2.2.2.2.2.2.2.2.1 d.2.2.2.2.2.2.2.2.2.2.2.2.2.2.1 d.2.2.2.2.2.2.2.2.2.2.2.2.2.2.2.1 d.2.2.2.2.2.2.2.2.2.2.2.2.2.2.2.2.1 d.2.2.2.2.2.2.2.2.2.2.2.2.2.2.2.2.2.1 d.2.2.2.2.2.2.2.2.2.2.2.2.2.2.2.2.2.2.1 d.2.2.2.2.2.2.2.2.2.2.2.2.2.2.2.2.2.2.2.1 d.2.2.2.2.2.2.2.2.2.2.2.2.2.2.2.2.2.2.2.2.1 d.2.2.2.2.2.2.2.2.2.2.2.2.2.2.2.2.2.2.2.2.2.1 d.2.2.2.2.2.2.2.2.2.2.2.2.2.2.2.2.2.2.2.2.2.2.1 d.2.2.2.2.2.2.2.2.2.2.2.2.2.2.2.2.2.2.2.2.2.2.2.1=some (t.1,t.2.1,t.2.2.1,t.2.2.2.1,t.2.2.2.2.1,t.2.2.2.2.2.1,b,()):=by
 obtain ⟨t,b,e,_⟩:=Ei d h;exact ⟨t,b,e⟩
theorem IZ (code:List (Int×Unit)) (a s:Int) {n:Nat} {w:mr} (h:jY n w) (hn:n≤98) {v id b:Int} (hv:v=2∨v=7) (wo:1≤id∧id≤3) :
  ∃sw,(1≤sw∧sw≤3)∧aJ iS (code,a,s,w.1,w.2.1,w.2.2.1,w.2.2.2.1,(0:Int),(0:Int),(0:Int),(0:Int),ByteArray.empty,v,id,b,(0:Int),ByteArray.empty,(0:Int),())=some (.inl (code,a,s,w.1,w.2.1,w.2.2.1,w.2.2.2.1,(0:Int),(0:Int),(0:Int),(0:Int),ByteArray.empty,v,sw,b,(0:Int),ByteArray.empty,())):=by
 have h5:=h.Ai;obtain ⟨e,he,sw,rfl,hq⟩:=dG (round:=iS) (x:=(code,a,s,w.1,w.2.1,w.2.2.1,w.2.2.2.1,(0:Int),(0:Int),(0:Int),(0:Int),ByteArray.empty,v,id,b,(0:Int),ByteArray.empty,((0:Nat):Int),())) 3
  (fun k x=>∃sw,x=(code,a,s,w.1,w.2.1,w.2.2.1,w.2.2.2.1,(0:Int),(0:Int),(0:Int),(0:Int),ByteArray.empty,v,sw,b,(0:Int),ByteArray.empty,((k:Nat):Int),())∧1≤sw∧sw≤3)
  (fun e=>∃sw,e=.inl (code,a,s,w.1,w.2.1,w.2.2.1,w.2.2.2.1,(0:Int),(0:Int),(0:Int),(0:Int),ByteArray.empty,v,sw,b,(0:Int),ByteArray.empty,())∧1≤sw∧sw≤3) (by
   rintro x ⟨sw,rfl,g⟩
   exact ⟨_,by simp only [iS,ba,sV,az,aq (show ¬((3:Nat):Int)<3 by omega),cond_false],sw,rfl,g⟩) (by
   rintro k x hk ⟨sw,rfl,g⟩
   have hk5:k<w.2.1.length:=by omega
   obtain ⟨t,fb,e1⟩:=UA w.2.1[k] ((h.Gq k hk5).1.small (by omega));obtain ⟨j,hj⟩:=Int.eq_ofNat_of_zero_le (show 0≤sw-1 by omega);have VY:sw=((j+1:Nat):Int):=by omega
   have hj5:j<w.2.1.length:=by omega
   have W3:IntKind.i64.wrap (((k:Nat):Int)+1)=((k+1:Nat):Int):=aN (show k<4611686018427387904 by omega);simp only [iS,ba,sV,az,ak (show ((k:Nat):Int)<3 by omega),cond_true,ax,aF,List.getElem?_eq_getElem hk5,Option.bind_some,e1,W3];rcases hv with hv | hv
   ·simp only [ak hv,aq (show ¬v=7 by omega),cond_true,cond_false]
    cases fb
    ·exact .inr ⟨_,rfl,sw,rfl,g⟩
    ·exact .inr ⟨_,rfl,((k+1:Nat):Int),rfl,by omega,by omega⟩
   ·simp only [aq (show ¬v=2 by omega),ak hv,cond_true,cond_false,VY,wk (show j<1000 by omega),ax,aF,List.getElem?_eq_getElem hj5,Option.bind_some];rw [←VY]
    cases fb
    ·simp only [cond_false]
     cases decide ((w.2.1[k]).2.2.2.2.2.2.2.2.2.2.2.2.2.2.2.2.2.2.1<(w.2.1[j]).2.2.2.2.2.2.2.2.2.2.2.2.2.2.2.2.2.2.1)
     ·exact .inr ⟨_,rfl,sw,rfl,g⟩
     ·exact .inr ⟨_,rfl,((k+1:Nat):Int),rfl,by omega,by omega⟩
    ·simp only [cond_true]
     cases decide ((w.2.1[k]).2.2.2.2.2.2.2.2.2.2.2.2.2.2.2.2.2.2.1<(w.2.1[j]).2.2.2.2.2.2.2.2.2.2.2.2.2.2.2.2.2.2.1)
     ·exact .inr ⟨_,rfl,sw,rfl,g⟩
     ·exact .inr ⟨_,rfl,((k+1:Nat):Int),rfl,by omega,by omega⟩) ⟨id,rfl,wo⟩
 exact ⟨sw,hq,he⟩
theorem Q0 (code:List (Int×Unit)) (a s:Int) {n:Nat} {w:mr} (h:jY n w) {v id b:Int} (wo:1≤id∧id≤3) :
  ∃sw,(1≤sw∧sw≤3)∧aJ kc (code,a,s,w.1,w.2.1,w.2.2.1,w.2.2.2.1,(0:Int),(0:Int),(0:Int),(0:Int),ByteArray.empty,v,id,b,(0:Int),ByteArray.empty,(0:Int),())=some (.inl (code,a,s,w.1,w.2.1,w.2.2.1,w.2.2.2.1,(0:Int),(0:Int),(0:Int),(0:Int),ByteArray.empty,v,sw,b,(0:Int),ByteArray.empty,())):=by
 have h5:=h.Ai;obtain ⟨e,he,sw,rfl,hq⟩:=dG (round:=kc) (x:=(code,a,s,w.1,w.2.1,w.2.2.1,w.2.2.2.1,(0:Int),(0:Int),(0:Int),(0:Int),ByteArray.empty,v,id,b,(0:Int),ByteArray.empty,((0:Nat):Int),())) 3
  (fun k x=>∃sw,x=(code,a,s,w.1,w.2.1,w.2.2.1,w.2.2.2.1,(0:Int),(0:Int),(0:Int),(0:Int),ByteArray.empty,v,sw,b,(0:Int),ByteArray.empty,((k:Nat):Int),())∧1≤sw∧sw≤3)
  (fun e=>∃sw,e=.inl (code,a,s,w.1,w.2.1,w.2.2.1,w.2.2.2.1,(0:Int),(0:Int),(0:Int),(0:Int),ByteArray.empty,v,sw,b,(0:Int),ByteArray.empty,())∧1≤sw∧sw≤3) (by
   rintro x ⟨sw,rfl,g⟩
   exact ⟨_,by simp only [kc,ba,sW,aq (show ¬((3:Nat):Int)<3 by omega),cond_false],sw,rfl,g⟩) (by
   rintro k x hk ⟨sw,rfl,g⟩
   have hk5:k<w.2.1.length:=by omega
   have W3:IntKind.i64.wrap (((k:Nat):Int)+1)=((k+1:Nat):Int):=aN (show k<4611686018427387904 by omega);simp only [kc,ba,sW,ak (show ((k:Nat):Int)<3 by omega),cond_true,ax,aF,List.getElem?_eq_getElem hk5,Option.bind_some,W3]
   cases (w.2.1[k]).2.1
   ·exact .inr ⟨_,rfl,sw,rfl,g⟩
   ·exact .inr ⟨_,rfl,((k+1:Nat):Int),rfl,by omega,by omega⟩) ⟨id,rfl,wo⟩
 exact ⟨sw,hq,he⟩
theorem Ey (code:List (Int×Unit)) {n:Nat} {w:mr} (h:jY n w) (hn:n≤98) {v id b:Int} (hv:1≤v∧v≤9) (wo:1≤id∧id≤3) (hb:0≤b) (a s:Int) (d:cm code a) :
  ∃(e:GK) (a' s':Int),iT code a s w.1 w.2.1 w.2.2.1 w.2.2.2.1 0 0 0 0 ByteArray.empty v id b 0 ByteArray.empty=some (e.1,e.2.1,e.2.2.1,e.2.2.2.1,e.2.2.2.2.1,code,a',s',w.1,w.2.1,w.2.2.1,w.2.2.2.1,())∧FG e∧cm code a':=by
 unfold iT;delta aA bA
 by_cases k1:v=1
 ·obtain ⟨l,a1,s1,e1,l0,l1,d1⟩:=dV code a s 2 d (by omega);obtain ⟨t,a2,s2,e2,ht,d2⟩:=OO code a1 s1 [((ByteArray.mk #[112]),()),((ByteArray.mk #[113]),()),((ByteArray.mk #[114]),()),((ByteArray.mk #[115]),()),((ByteArray.mk #[116]),())] d1 (by decide);have hts:ByteArray.size t≤60:=by
   simp only [List.mem_cons,Prod.mk.injEq,and_true,List.not_mem_nil,or_false] at ht;rcases ht with rfl | rfl | rfl | rfl | rfl<;>decide
  refine ⟨(v,id,b,1+l,t,()),a2,s2,?_,⟨hv,⟨wo.1,by show id≤5;omega⟩,hb,fun _=>⟨by show 1≤1+l∧1+l≤2;omega,hts⟩,fun h1=>absurd k1 h1⟩,d2⟩;simp only [ak k1,cond_true,e1,e2,Option.bind_some];rw [cD (show -9223372036854775808≤1+l by omega) (by omega)]
 have done:∀sw b':Int,(1≤sw∧sw≤3)→0≤b'→FG (v,sw,b',0,ByteArray.empty,()):=fun sw b' h1 h2=>⟨hv,⟨h1.1,by show sw≤5;omega⟩,h2,fun g=>absurd g k1,fun _=>⟨rfl,rfl⟩⟩
 by_cases k2:v=2
 ·obtain ⟨sw,hi,e1⟩:=IZ code a s h hn (b:=b) (.inl k2) wo;refine ⟨(v,sw,b,0,ByteArray.empty,()),a,s,?_,done sw b hi hb,d⟩;simp only [aq k1,ak k2,cond_true,cond_false,e1,cg,Option.bind_some]
 by_cases k7:v=7
 ·obtain ⟨sw,hi,e1⟩:=IZ code a s h hn (b:=b) (.inr k7) wo;refine ⟨(v,sw,b,0,ByteArray.empty,()),a,s,?_,done sw b hi hb,d⟩;simp only [aq k1,aq k2,ak k7,cond_true,cond_false,e1,cg,Option.bind_some]
 by_cases k3:v=3
 ·obtain ⟨o,a1,s1,e1,d1⟩:=qV code a s 2 d (by omega);simp only [aq k1,aq k2,aq k7,ak k3,cond_true,cond_false,e1,Option.bind_some]
  cases o
  ·exact ⟨(v,id,b,0,ByteArray.empty,()),a1,s1,rfl,done id b wo hb,d1⟩
  ·exact ⟨(v,id,0,0,ByteArray.empty,()),a1,s1,rfl,done id 0 wo (Int.le_refl _),d1⟩
 by_cases k9:v=9
 ·obtain ⟨sw,hi,e1⟩:=Q0 code a s h (v:=v) (b:=b) wo;refine ⟨(v,sw,b,0,ByteArray.empty,()),a,s,?_,done sw b hi hb,d⟩;simp only [aq k1,aq k2,aq k7,aq k3,ak k9,cond_true,cond_false,e1,cg,Option.bind_some]
 ·refine ⟨(v,id,b,0,ByteArray.empty,()),a,s,?_,done id b wo hb,d⟩;simp only [aq k1,aq k2,aq k7,aq k3,aq k9,cond_false]
theorem I0 (code:List (Int×Unit)) {n:Nat} {w:mr} (h:jY n w) (hn:n≤98) {v id b:Int} (hv:1≤v∧v≤9) (wo:1≤id∧id≤3) (hb:0≤b) (a s:Int) (d:cm code a) :
  ∃(e:GK) (a' s':Int),ke code a s w.1 w.2.1 w.2.2.1 w.2.2.2.1 0 0 0 0 ByteArray.empty v id b 0 ByteArray.empty=some (e.1,e.2.1,e.2.2.1,e.2.2.2.1,e.2.2.2.2.1,code,a',s',w.1,w.2.1,w.2.2.1,w.2.2.2.1,())∧FG e∧cm code a':=by
 unfold ke
 cases decide (v=7)
 ·exact Ey code h hn hv wo hb a s d
 cases decide ((0:Int)<((List.length w.2.2.1:Nat):Int))
 ·exact Ey code h hn hv wo hb a s d
 ·obtain ⟨o,a1,s1,e1,d1⟩:=qV code a s 3 d (by omega);simp only [cond_true,e1,Option.bind_some]
  cases o
  ·simp only [Bool.not_false,cond_true];exact Ey code h hn (by omega) wo hb a1 s1 d1
  ·simp only [Bool.not_true,cond_false];exact Ey code h hn hv wo hb a1 s1 d1
theorem I1 (code:List (Int×Unit)) {n:Nat} {w:mr} (h:jY n w) (hn:n≤98) {v id b:Int} (hv:1≤v∧v≤9) (wo:1≤id∧id≤3) (hb:0≤b) (a s:Int) (d:cm code a) :
  ∃(e:GK) (a' s':Int),kg code a s w.1 w.2.1 w.2.2.1 w.2.2.2.1 0 0 0 0 ByteArray.empty v id b 0 ByteArray.empty=some (e.1,e.2.1,e.2.2.1,e.2.2.2.1,e.2.2.2.2.1,code,a',s',w.1,w.2.1,w.2.2.1,w.2.2.2.1,())∧FG e∧cm code a':=by
 unfold kg
 cases decide (((List.length w.2.2.1:Nat):Int)=0)
 ·exact I0 code h hn hv wo hb a s d
 ·simp only [cond_true,mG,Option.bind_some]
  cases (decide (3≤v)&&decide (v≤5))
  ·exact I0 code h hn hv wo hb a s d
  ·obtain ⟨v2,a1,s1,e1,O8,d1⟩:=zM code a s [((2:Int),()),(6,()),(7,())] d (by decide);simp only [cond_true,e1,Option.bind_some];refine I0 code h hn ?_ wo hb a1 s1 d1;simp only [List.mem_cons,Prod.mk.injEq,and_true,List.not_mem_nil,or_false] at O8;omega
theorem X7 (code:List (Int×Unit)) (a s:Int) (d:cm code a) {n:Nat} {w:mr} (h:jY n w) (hn:n≤98) :
  ∃(e:GK) (a' s':Int),ue code a s w.1 w.2.1 w.2.2.1 w.2.2.2.1=some (e.1,e.2.1,e.2.2.1,e.2.2.2.1,e.2.2.2.2.1,code,a',s',w.1,w.2.1,w.2.2.1,w.2.2.2.1,())∧FG e∧cm code a':=by
 obtain ⟨v,a1,s1,e1,hv,d1⟩:=zM code a s [((1:Int),()),(1,()),(1,()),(2,()),(3,()),(3,()),(3,()),(3,()),(3,()),(3,()),(3,()),(3,()),(3,()),(4,()),(5,()),(6,()),(7,()),(7,()),(8,()),(9,())] d (by decide);obtain ⟨i,a2,s2,e2,i0,i1,d2⟩:=dV code a1 s1 3 d1 (by omega);obtain ⟨b,a3,s3,e3,b0,b1,d3⟩:=dV code a2 s2 30 d2 (by omega);have hv:=ZS hv;have hi:IntKind.i64.wrap (1+i)=1+i:=cD (by omega) (by omega);unfold ue;simp only [e1,e2,e3,Option.bind_some,hi]
 cases decide (v=8)
 ·exact I1 code h hn hv (by omega) b0 a3 s3 d3
 ·obtain ⟨o,a4,s4,e4,d4⟩:=qV code a3 s3 4 d3 (by omega);simp only [cond_true,e4,Option.bind_some]
  cases o
  ·simp only [Bool.not_false,cond_true];exact I1 code h hn (by omega) (by omega) b0 a4 s4 d4
  ·simp only [Bool.not_true,cond_false];exact I1 code h hn hv (by omega) b0 a4 s4 d4
end Go.TM
set_option linter.unusedSimpArgs false
set_option linter.unusedVariables false
namespace Go.TM
open Go
theorem Ln {c:Int} {ms:dC} (h:IU c ms):js c ms:=⟨⟨h.yP,h.pr⟩,⟨h.some_,h.len⟩,fun k hk _=>⟨by have:=h.rising.2.1 k hk;omega,fun h0=>h.rising.2.2 (k-1) k (by omega) hk (by omega)⟩⟩
theorem X8 (code:List (Int×Unit)) (h:code.length≤1048576):∃n:Nat,ud code=some (((n:Nat):Int),())∧n≤89:=by
 have e:Int.tdiv ((List.length code:Nat):Int) 4=((code.length / 4:Nat):Int):=rfl;unfold ud;rw [e,cD (show -9223372036854775808≤((code.length / 4:Nat):Int) by omega) (by omega),cD (show -9223372036854775808≤24+((code.length / 4:Nat):Int) by omega) (by omega)]
 by_cases g:89<24+code.length / 4
 ·rw [ak (show (89:Int)<24+((code.length / 4:Nat):Int) by omega)];exact ⟨89,rfl,Nat.le_refl _⟩
 ·rw [aq (show ¬(89:Int)<24+((code.length / 4:Nat):Int) by omega)];exact ⟨24+code.length / 4,rfl,by omega⟩
theorem OX {rs:OS} (h:IV rs):uc rs=some (true,()):=by
 have hf:=h.GR;have hs:=h.some_;have l1:=ck (round:=kb) (e:=.inl (rs,())) rs.length (fun k=>(rs,((k:Nat):Int),())) (by
  simp only [kb,sU,aM,cond_false]) (fun k hk=>by
  obtain ⟨e1,e2,_⟩:=h.each k hk;have hr:=Ln e2;have hl:(rs[k]).2.1.length≤1048576:=by have:=hr.2.1.2;omega
  have r1:=(ou (rs[k]).1 (rs[k]).2.1 hl).1;rw [(ou (rs[k]).1 (rs[k]).2.1 hl).2.2.2 hr] at r1;simp only [kb,sU,aE hk,ax,cond_true,aF,List.getElem?_eq_getElem hk,Option.bind_some,r1,Bool.not_true,cond_false,aN (show k<4611686018427387904 by omega),ak e1])
 have l1:aJ kb (rs,(0:Int),())=_:=l1;unfold uc;simp only [l1,cg,Option.bind_some,mG,ak (show (1:Int)≤((List.length rs:Nat):Int) by omega),ak (show ((List.length rs:Nat):Int)≤9 by omega),Bool.and_self]
theorem X9 {rs:OS} (h:∀r∈rs,js r.1 r.2.1) (hl:rs.length≤9):rs.length+wl Bn rs≤1048576:=by
 have:=ID Bn 5 rs (fun r hr=>by
  have h1:=(h r hr).2.1.2;have e:Bn r=r.2.1.length+wl jV r.2.1:=rfl;have e2:wl jV r.2.1=0:=nc jV (fun _=>rfl) _;omega)
 omega
def dh (rs:OS):mr:=(rs,oA 5,[],[],())
theorem Ya (k:Nat) (hk:k<5):xX (C0 (((k:Nat):Int)+1)):=
 {
  id:=⟨by show (1:Int)≤((k:Nat):Int)+1;omega,by show ((k:Nat):Int)+1≤5;omega⟩
  xY:=⟨Int.le_refl _,show (0:Int)≤9 by decide⟩
  dead:=fun e=>by cases e
  tM:=.inl ⟨rfl,rfl,rfl,rfl,rfl,rfl,rfl,rfl,rfl,rfl,rfl,rfl,rfl,rfl,rfl,rfl⟩
  old:=⟨rfl,Int.le_refl _⟩
  nT:=.inl ⟨rfl,rfl,rfl⟩ }
theorem Yb (k:Nat) (hk:k<(oA 5).length):kN 0 (oA 5)[k]∧((oA 5)[k]).1=((k+1:Nat):Int):=by
 have hk0:k<((List.range 5).map fun i:Nat=>C0 ((i:Int)+1)).length:=hk;have e:(oA 5)[k]=C0 (((k:Nat):Int)+1):=by
  show ((List.range 5).map fun i:Nat=>C0 ((i:Int)+1))[k]=_;rw [List.getElem_map,List.getElem_range]
 have hk5:k<5:=by have:=Bu 5;omega
 have key:∀x:bZ,x=C0 (((k:Nat):Int)+1)→kN 0 x∧x.1=((k+1:Nat):Int):=fun x hx=>by
  subst hx;exact ⟨⟨Ya k hk5,Nat.zero_le _,Nat.zero_le _,fun e he=>by cases he⟩,by show ((k:Nat):Int)+1=_;omega⟩
 exact key _ e
theorem C2 {rs:OS} (h:IV rs):jY 0 (dh rs):=
 {
  rings:=⟨fun r hr=>by
   obtain ⟨k,hk,rfl⟩:=List.mem_iff_getElem.1 hr;exact Ln (h.each k hk).2.1,by show rs.length≤9;have:=h.GR;omega⟩
  Ai:=Bu 5
  Gq:=Yb
  lets:=fun x hx=>by cases hx
  GR:=by show 0≤_;omega
  num:=Nat.zero_le _
  nums:=fun e he=>by cases he }
theorem Ez {rs:OS} (h:IV rs):pb rs=some ((dh rs).1,(dh rs).2.1,(dh rs).2.2.1,(dh rs).2.2.2.1,true,()):=by
 have hq:=C2 h;have hw:rs.length+wl Bn rs≤1048576:=X9 hq.rings.1 hq.rings.2;unfold pb;delta aA;simp only [OX h,Bt rs hw,Option.bind_some,Bool.not_true,cond_false,Uu rs,cg];rfl
theorem UB {n:Nat} {w:mr} (h:jY n w) (hn:n≤99):ml w.1 w.2.1 w.2.2.1 w.2.2.2.1=some (w.1,w.2.1,w.2.2.1,w.2.2.2.1,()):=by
 have hf:=h.GR;have h5:=h.Ai;have arY:=h.num;have c1:=Bt w.1 (X9 h.rings.1 h.rings.2);have l2:=ck (round:=fF) (e:=.inl (w.2.2.1,())) w.2.2.1.length (fun k=>(w.2.2.1,w.2.2.1.take k,((k:Nat):Int),())) (by
  simp only [fF,mj,aw,aP,aA,bA,aM,cond_false,List.take_length]) (fun k hk=>by
  have hx:=h.lets _ (List.getElem_mem hk);have e1:=(mo (w.2.2.1[k]).2.2.2.2.2.2.2.1 (w.2.2.1[k]).2.2.2.2.2.2.2.2.1 (w.2.2.1[k]).2.2.2.2.2.2.2.2.2.1 (w.2.2.1[k]).2.2.2.2.2.2.2.2.2.2.1 (w.2.2.1[k]).2.2.2.2.2.2.2.2.2.2.2.1 (w.2.2.1[k]).2.2.2.2.2.2.2.2.2.2.2.2.1 (Nat.le_trans hx.OE (by decide))).1;have e2:=(jt ((w.2.2.1[k]).2.2.2.2.2.2.2.2.2.2.2.2.2.1,(w.2.2.1[k]).2.2.2.2.2.2.2.2.2.2.2.2.2.2.1,(w.2.2.1[k]).2.2.2.2.2.2.2.2.2.2.2.2.2.2.2.1,(w.2.2.1[k]).2.2.2.2.2.2.2.2.2.2.2.2.2.2.2.2.1,()) (Nat.le_trans hx.bun (by decide))).1;simp only [fF,mj,aw,aP,aA,bA,aE hk,ax,cond_true,aF,List.getElem?_eq_getElem hk,Option.bind_some,e1];rw [e2];simp only [Option.bind_some,List.length_take,aT (show (min k w.2.2.1.length+1)*176≤lim by unfold lim;omega),cond_true,aN (show k<4611686018427387904 by omega)];rw [List.take_succ_eq_append_getElem hk])
 have l2:aJ fF (w.2.2.1,[],(0:Int),())=_:=l2;have c2:fI w.2.2.1=some (w.2.2.1,()):=by
  unfold fI;rw [l2];rfl
 have hev:=ID bt 70 w.2.2.2.1 (fun e he=>by
  obtain ⟨e1,e2,e3⟩:=h.nums e he;have e4:bt e=(e.2.2.1.length+wl jV e.2.2.1)+ByteArray.size e.2.2.2.2.2.2.1+(e.2.2.2.2.2.2.2.1.length+wl jV e.2.2.2.2.2.2.2.1):=rfl;have e5:wl jV e.2.2.1=0:=nc jV (fun _=>rfl) _;have e6:wl jV e.2.2.2.2.2.2.2.1=0:=nc jV (fun _=>rfl) _;omega)
 have c3:=tI w.2.2.2.1 (by omega);have l4:=ck (round:=iZ) (e:=.inl ([],[],[],[],w.1,w.2.1,w.2.2.1,w.2.2.2.1,())) w.2.1.length (fun k=>(w.1,w.2.1,w.2.2.1,w.2.2.2.1,[],[],[],[],w.1,w.2.1.take k,w.2.2.1,w.2.2.2.1,((k:Nat):Int),())) (by
  simp only [iZ,gK,tv,az,bI,aM,cond_false,List.take_length]) (fun k hk=>by
  have e1:=(uJ w.2.1[k] ((h.Gq k hk).1.small (by omega))).1;simp only [iZ,gK,tv,az,bI,aE hk,ax,cond_true,aF,List.getElem?_eq_getElem hk,Option.bind_some];rw [e1];simp only [Option.bind_some,List.length_take,aT (show (min k w.2.1.length+1)*320≤lim by unfold lim;omega),cond_true,aN (show k<4611686018427387904 by omega)];rw [List.take_succ_eq_append_getElem hk])
 have l4:aJ iZ (w.1,w.2.1,w.2.2.1,w.2.2.2.1,[],[],[],[],w.1,[],w.2.2.1,w.2.2.2.1,(0:Int),())=_:=l4;unfold ml;simp only [c1,c2,c3,Option.bind_some,l4,cg]
theorem Q1 {e:GK} (h:FG e):wP e.1 e.2.1 e.2.2.1 e.2.2.2.1 e.2.2.2.2.1=some (true,()):=by
 unfold wP;simp only [mG,ak h.kind.1,ak h.kind.2,ak h.id.1,ak h.id.2,Bool.and_self,Option.bind_some,Bool.not_true,cond_false,aq (show ¬e.2.2.1<0 by have:=h.at_;omega)]
 by_cases h1:e.1=1
 ·obtain ⟨⟨a1,a2⟩,a3⟩:=h.say h1;simp only [ak h1,ak a1,ak a2,Bool.and_self,cond_true,ak (show ((ByteArray.size e.2.2.2.2.1:Nat):Int)≤60 by omega)]
 ·obtain ⟨a1,a2⟩:=h.no h1;simp only [aq h1,ak a1,a2,cond_true,cond_false];show some (wB ByteArray.empty ByteArray.empty,())=_;rw [PF]
theorem Yc (code:List (Int×Unit)) (a s:Int) (d:cm code a) (hc:code.length≤1048576):∃(rs:OS) (ds:List GK) (a' s':Int),uA code a s code=some (rs,ds,code,a',s',())∧IV rs∧ds.length≤89∧(∀e∈ds,FG e)∧cm code a':=by
 obtain ⟨rs,a1,s1,e1,hv,d1⟩:=MH code a s d;obtain ⟨n,e2,hn⟩:=X8 code hc;obtain ⟨e,he,a',s',ds,rfl,q1,q2,d'⟩:=dG (round:=km) (x:=(code,a1,s1,code,[],[],rs,[],(dh rs).1,(dh rs).2.1,(dh rs).2.2.1,(dh rs).2.2.2.1,((0:Nat):Int),())) n
  (fun k x=>∃(a s:Int) (ds:List GK) (w:mr),x=(code,a,s,code,[],[],rs,ds,w.1,w.2.1,w.2.2.1,w.2.2.2.1,((k:Nat):Int),())∧jY k w∧ds.length=k∧(∀e∈ds,FG e)∧cm code a)
  (fun e=>∃(a s:Int) (ds:List GK),e=.inl (code,a,s,[],[],rs,ds,())∧ds.length=n∧(∀e∈ds,FG e)∧cm code a) (by
   rintro x ⟨a,s,ds,w,rfl,hw,q1,q2,d⟩
   exact ⟨_,by simp only [km,gK,tu,aw,aA,e2,Option.bind_some,aM,cond_false],a,s,ds,rfl,q1,q2,d⟩) (by
   rintro k x hk ⟨a,s,ds,w,rfl,hw,q1,q2,d⟩
   obtain ⟨e,a1,s1,e3,he,d1⟩:=X7 code a s d hw (by omega);have hb:Nat.ble ((ds.length+1)*48) lim=true:=aT (by rw [q1];unfold lim;omega);have W3:IntKind.i64.wrap (((k:Nat):Int)+1)=((k+1:Nat):Int):=aN (show k<4611686018427387904 by omega);simp only [km,gK,tu,aw,aA,e2,Option.bind_some,aE hk,cond_true,e3]
   by_cases k3:k<3
   ·have hm:FG (7,((k+1:Nat):Int),0,0,ByteArray.empty,()):=⟨⟨show (1:Int)≤7 by decide,show (7:Int)≤9 by decide⟩,⟨by show (1:Int)≤((k+1:Nat):Int);omega,by show ((k+1:Nat):Int)≤5;omega⟩,Int.le_refl _,fun h=>(by have h:(7:Int)=1:=h;omega),fun _=>⟨rfl,rfl⟩⟩;obtain ⟨b,w',e4,hw'⟩:=IY hw (by omega) hm;have e4:pH w.1 w.2.1 w.2.2.1 w.2.2.2.1 7 ((k+1:Nat):Int) 0 0 ByteArray.empty=_:=e4;simp only [ak (show ((k:Nat):Int)<3 by omega),cond_true,W3,e4,Option.bind_some,hb];refine .inr ⟨_,rfl,a1,s1,ds++[(7,((k+1:Nat):Int),0,0,ByteArray.empty,())],w',rfl,hw',by rw [List.length_append,q1];rfl,fun x hx => ?_,d1⟩;rcases List.mem_append.1 hx with hx | hx
    ·exact q2 x hx
    ·rw [List.mem_singleton] at hx;subst hx;exact hm
   ·obtain ⟨b,w',e4,hw'⟩:=IY hw (by omega) he;simp only [aq (show ¬((k:Nat):Int)<3 by omega),cond_false,W3,e4,Option.bind_some,hb,cond_true];refine .inr ⟨_,rfl,a1,s1,ds++[e],w',rfl,hw',by rw [List.length_append,q1];rfl,fun x hx => ?_,d1⟩;rcases List.mem_append.1 hx with hx | hx
    ·exact q2 x hx
    ·rw [List.mem_singleton] at hx;subst hx;exact he) ⟨a1,s1,[],_,rfl,C2 hv,rfl,fun e he=>(by cases he),d1⟩
 have he:aJ km (code,a1,s1,code,[],[],rs,[],(dh rs).1,(dh rs).2.1,(dh rs).2.2.1,(dh rs).2.2.2.1,(0:Int),())=_:=he;refine ⟨rs,ds,a',s',?_,hv,by omega,q2,d'⟩;unfold uA;delta aA;simp only [e1,Option.bind_some,Ez hv,he,cg]
theorem ZT {rs:OS} (hv:IV rs) (ds:List GK) (hl:ds.length≤89) (he:∀e∈ds,FG e):∃(w:mr) (wY:dC),sn rs ds=some (w.1,w.2.1,w.2.2.1,w.2.2.2.1,wY,true,())∧jY ds.length w:=by
 have l1:=ck (round:=jC) (e:=.inl (ds,[],[],[],[],(dh rs).1,(dh rs).2.1,(dh rs).2.2.1,(dh rs).2.2.2.1,true,())) ds.length (fun k=>(ds,[],[],[],[],(dh rs).1,(dh rs).2.1,(dh rs).2.2.1,(dh rs).2.2.2.1,true,((k:Nat):Int),())) (by
  simp only [jC,bC,rN,aw,aM,cond_false]) (fun k hk=>by
  simp only [jC,bC,rN,aw,aE hk,cond_true,ak (show ((List.length ds:Nat):Int)≤90 by omega),ax,aF,List.getElem?_eq_getElem hk,Option.bind_some,Q1 (he _ (List.getElem_mem hk)),aN (show k<4611686018427387904 by omega)])
 have l1:aJ jC (ds,[],[],[],[],(dh rs).1,(dh rs).2.1,(dh rs).2.2.1,(dh rs).2.2.2.1,true,(0:Int),())=_:=l1;obtain ⟨e,l2,w,wY,rfl,hw⟩:=dG (round:=jD) (x:=(ds,[],[],[],[],(dh rs).1,(dh rs).2.1,(dh rs).2.2.1,(dh rs).2.2.2.1,[],((0:Nat):Int),())) ds.length
  (fun k x=>∃(w:mr) (wY:dC),x=(ds,[],[],[],[],w.1,w.2.1,w.2.2.1,w.2.2.2.1,wY,((k:Nat):Int),())∧jY k w∧wY.length=k)
  (fun e=>∃(w:mr) (wY:dC),e=.inl ([],[],[],[],w.1,w.2.1,w.2.2.1,w.2.2.2.1,wY,())∧jY ds.length w) (by
   rintro x ⟨w,wY,rfl,hw,q⟩
   exact ⟨_,by simp only [jD,bC,rP,aw,aA,aM,cond_false],w,wY,rfl,hw⟩) (by
   rintro k x hk ⟨w,wY,rfl,hw,q⟩
   obtain ⟨b,w',e1,hw'⟩:=IY hw (by omega) (he _ (List.getElem_mem hk));refine .inr ⟨(ds,[],[],[],[],w'.1,w'.2.1,w'.2.2.1,w'.2.2.2.1,wY++[(b,())],((k+1:Nat):Int),()),?_,w',_,rfl,hw',by rw [List.length_append,q];rfl⟩;simp only [jD,bC,rP,aw,aA,aE hk,cond_true,ax,aF,List.getElem?_eq_getElem hk,Option.bind_some,e1,aT (show (wY.length+1)*8≤lim by rw [q];unfold lim;omega),aN (show k<4611686018427387904 by omega)]) ⟨_,[],rfl,C2 hv,rfl⟩
 have l2:aJ jD (ds,[],[],[],[],(dh rs).1,(dh rs).2.1,(dh rs).2.2.1,(dh rs).2.2.2.1,[],(0:Int),())=_:=l2;refine ⟨w,wY,?_,hw⟩;unfold sn;delta aw aA eE;simp only [Ez hv,Option.bind_some,l1,cg,Bool.not_true,cond_false,l2,UB hw (by omega)]
theorem UC (code:List (Int×Unit)) (a s:Int) (d:cm code a) (hc:code.length≤1048576):∃(w:mr) (a' s':Int) (n:Nat),pf code a s code=some (w.1,w.2.1,w.2.2.1,w.2.2.2.1,code,a',s',())∧jY n w∧n≤89∧cm code a':=by
 obtain ⟨rs,ds,a',s',e1,hv,hl,he,d'⟩:=Yc code a s d hc;obtain ⟨w,wY,e2,hw⟩:=ZT hv ds hl he;refine ⟨w,a',s',ds.length,?_,hw,hl,d'⟩;unfold pf;delta aA;simp only [e1,Option.bind_some,e2]
end Go.TM
set_option linter.unusedSimpArgs false
set_option linter.unusedVariables false
namespace Go.TM
open Go
def OY {B:Type} (code:List (Int×Unit)) (c0 c1 c2 c3 c4:Int):Sum (List (Int×Unit)×Int×Int×Int×Int×Int×Int×Int×(List (Int×Unit))×Int×Int×Int×Int×Int×(List (Int×Unit))×Unit) B→Prop
 |.inl y=>y.1=code∧cm code y.2.1∧y.2.2.2.2.2.2.2.2.2=(c0,c1,c2,c3,c4,y.2.2.2.2.2.2.2.2.2.2.2.2.2.2.1,())∧y.2.2.2.2.2.2.2.2.2.2.2.2.2.2.1.length≤12
 |.inr _=>False
theorem Yd (code:List (Int×Unit)) (at_ j7 c0 c1 c2 c3 c4:Int) (h:cm code at_) (h0:0≤c2) (h1:c2<12) :
  ∃e,aJ fG (code,at_,j7,(0:Int),(0:Int),(0:Int),(0:Int),(0:Int),[],c0,c1,c2,c3,c4,[],(1:Int),())=some e∧OY code c0 c1 c2 c3 c4 e:=by
 obtain ⟨m,rfl⟩:=Int.eq_ofNat_of_zero_le h0;refine dG (round:=fG) m (fun k x=>∃wA s' l,x=(code,wA,s',(0:Int),(0:Int),(0:Int),(0:Int),(0:Int),[],c0,c1,((m:Nat):Int),c3,c4,l,((k+1:Nat):Int),())∧cm code wA∧l.length≤k) (OY code c0 c1 ((m:Nat):Int) c3 c4) ?_ ?_ ⟨at_,j7,[],rfl,h,Nat.le_refl _⟩
 ·rintro x ⟨wA,s',l,rfl,hd,hl⟩
  refine ⟨.inl (code,wA,s',(0:Int),(0:Int),(0:Int),(0:Int),(0:Int),[],c0,c1,((m:Nat):Int),c3,c4,l,()),?_,rfl,hd,rfl,(by show l.length≤12;omega)⟩;simp only [fG,ba,rQ,aq (show ¬((m+1:Nat):Int)≤((m:Nat):Int) by omega),cond_false]
 ·rintro k x hk ⟨wA,s',l,rfl,hd,hl⟩
  obtain ⟨b,a1,s1,e1,d1⟩:=qV code wA s' 5 hd (by omega);simp only [fG,ba,rQ,ak (show ((k+1:Nat):Int)≤((m:Nat):Int) by omega),cond_true,e1,Option.bind_some,aN (show k+1<4611686018427387904 by omega)]
  cases b
  ·exact .inr ⟨_,rfl,a1,s1,l,rfl,d1,by omega⟩
  ·rw [aT (show (l.length+1)*8≤lim by unfold lim;omega)];exact .inr ⟨_,rfl,a1,s1,l++[(((k+1:Nat):Int),())],rfl,d1,by simp;omega⟩
def OZ (code:List (Int×Unit)) (o:Option (Int×Int×Int×Int×Int×(List (Int×Unit))×(List (Int×Unit))×Int×Int×Unit)) (n:Nat):Prop:=
 ∃t0 t1 t2 t3 t4 xs wA s',o=some (t0,t1,t2,t3,t4,xs,code,wA,s',())∧cm code wA∧xs.length≤n
theorem Q2 (code:List (Int×Unit)) (at_ j7:Int) (h:cm code at_):OZ code (pg code at_ j7) 12:=by
 obtain ⟨v1,a1,s1,e1,p1,q1,d1⟩:=dV code at_ j7 3 h (by omega);obtain ⟨v2,a2,s2,e2,p2,q2,d2⟩:=dV code a1 s1 9 d1 (by omega);obtain ⟨v3,a3,s3,e3,p3,q3,d3⟩:=dV code a2 s2 12 d2 (by omega);obtain ⟨v4,a4,s4,e4,p4,q4,d4⟩:=dV code a3 s3 (v3+1) d3 (by omega);unfold pg;delta bA;simp only [e1,e2,e3,Option.bind_some,cD (show -9223372036854775808≤v3+1 by omega) (show v3+1<9223372036854775808 by omega),e4,cD (show -9223372036854775808≤1+v1 by omega) (show 1+v1<9223372036854775808 by omega),cD (show -9223372036854775808≤1+v2 by omega) (show 1+v2<9223372036854775808 by omega)];have done:∀(c4 a s:Int),cm code a→OZ code (cg (aJ fG (code,a,s,(0:Int),(0:Int),(0:Int),(0:Int),(0:Int),[],1+v1,1+v2,v3,v4,c4,[],(1:Int),())) (fun y6=>
   some (y6.2.2.2.2.2.2.2.2.2.1,y6.2.2.2.2.2.2.2.2.2.2.1,y6.2.2.2.2.2.2.2.2.2.2.2.1,y6.2.2.2.2.2.2.2.2.2.2.2.2.1,y6.2.2.2.2.2.2.2.2.2.2.2.2.2.1,y6.2.2.2.2.2.2.2.2.2.2.2.2.2.2.1,y6.1,y6.2.1,y6.2.2.1,())) (fun y7=>
   none)) 12:=by
  intro c4 a s hd;obtain ⟨e,he,hq⟩:=Yd code a s (1+v1) (1+v2) v3 v4 c4 hd p3 q3;rw [he]
  cases e with
  |inr e=>exact hq.elim
  |inl e=>
   obtain ⟨k1,k2,k3,k4⟩:=hq;obtain ⟨y1,y2,y3,y4,y5,y6,y7,y8,y9,wq⟩:=e;simp only at k1 k2 k3 k4;subst k1;exact ⟨_,_,_,_,_,_,_,_,rfl,k2,k4⟩
 cases decide (v4<v3)
 ·obtain ⟨b,a5,s5,e5,d5⟩:=qV code a4 s4 6 d4 (by omega);simp only [e5,Option.bind_some,cond_false]
  cases b
  ·exact done _ _ _ d5
  ·obtain ⟨v6,a6,s6,e6,p6,q6,d6⟩:=dV code a5 s5 3 d5 (by omega);simp only [e6,Option.bind_some,cond_true];exact done _ _ _ d6
 ·obtain ⟨v6,a6,s6,e6,p6,q6,d6⟩:=dV code a4 s4 3 d4 (by omega);simp only [e6,Option.bind_some,cond_true];exact done _ _ _ d6
end Go.TM
set_option linter.unusedSimpArgs false
set_option linter.unusedVariables false
namespace Go.TM
open Go
theorem UD (x:Int):∃y,qK x=some (y,()):=by
 unfold qK
 cases decide (x<(10:Int))
 ·exact ⟨_,rfl⟩
 ·exact ⟨_,rfl⟩
theorem Q3 (n:Int) (h0:0<n) (h1:n<10):∃s,uB n=some (s,())∧ByteArray.size s≤1:=by
 have m1:Int.tmod n 10=n:=Int.tmod_eq_of_lt (by omega) h1;have m2:Int.tdiv n 10=0:=Int.tdiv_eq_zero_of_lt (by omega) h1;obtain ⟨y,hy⟩:=UD n;have py:ByteArray.size (bytesOf [(y,())])=1:=D9 [(y,())];have QL:Nat.ble (ByteArray.size (bytesOf [(y,())])+0) lim=true:=by rw [py];exact aT (by unfold lim;omega)
 have r1:ko (n,decide (n<(0:Int)),(ByteArray.mk #[]),())=some (.inl ((0:Int),false,(bytesOf [(y,())])++(ByteArray.mk #[]),())):=by
  have e1:ByteArray.size (ByteArray.mk #[])=0:=rfl;simp only [ko,tz,aq (show ¬n=0 by omega),Bool.not_false,cond_true,m1,m2,aq (show ¬n<0 by omega),cond_false,hy,Option.bind_some,e1,QL,cD (show -9223372036854775808≤(0:Int) by omega) (by omega)]
 have r2:ko ((0:Int),false,(bytesOf [(y,())])++(ByteArray.mk #[]),())=some (.inr (.inl (false,(bytesOf [(y,())])++(ByteArray.mk #[]),()))):=by
  simp only [ko,tz,decide_true,Bool.not_true,cond_false]
 unfold uB;rw [aq (show ¬n=0 by omega),jJ,r1];simp only [cond_false];rw [jJ,r2];refine ⟨_,rfl,?_⟩;rw [ByteArray.size_append,py]
 decide
def I2 (l:aV):Prop:=l.length≤10∧∀x∈l,ByteArray.size x.2.2.2.1≤61
theorem I2.w {l:aV} (h:I2 l):l.length+wl dJ l≤620:=by
 have:=La dJ 61 l h.2;have:=h.1;omega
theorem I2.nil:I2 []:=⟨Nat.zero_le _,fun x h=>by cases h⟩
theorem UE (code:List (Int×Unit)) (at_ j7:Int) (h:cm code at_) (c:Int) (xs:List (Int×Unit)) (d:Int) (hc:c≤10):∃b0 b1 b2 l wA s',nL code at_ j7 c xs d=some (b0,b1,b2,l,code,wA,s',())∧I2 l∧cm code wA:=by
 unfold nL;delta RA aA
 by_cases h1:1<c
 ·obtain ⟨b,a1,s1,e1,d1⟩:=qV code at_ j7 4 h (by omega);simp only [ak h1,cond_true,e1,Option.bind_some]
  cases b
  ·have hw:IntKind.i64.wrap (c-(1:Int))=c-1:=cD (by omega) (by omega);obtain ⟨v,a2,s2,e2,v0,v1,d2⟩:=dV code a1 s1 (c-1) d1 (by omega);simp only [Bool.not_false,cond_true,hw,e2,Option.bind_some];obtain ⟨e,he,hq⟩:=dG (round:=iL) (x:=(code,a2,s2,(0:Int),(0:Int),(0:Int),[],d,c,IntKind.i64.wrap ((1:Int)+v),[],[],((0+1:Nat):Int),())) 6
    (fun k x=>∃l:aV,x=(code,a2,s2,(0:Int),(0:Int),(0:Int),[],d,c,IntKind.i64.wrap ((1:Int)+v),[],l,((k+1:Nat):Int),())∧l.length≤k∧∀x∈l,ByteArray.size x.2.2.2.1≤61)
    (fun e=>∃l:aV,e=.inl (code,a2,s2,(0:Int),(0:Int),(0:Int),[],d,c,IntKind.i64.wrap ((1:Int)+v),[],l,())∧l.length≤6∧∀x∈l,ByteArray.size x.2.2.2.1≤61) (by
     rintro x ⟨l,rfl,q1,q2⟩
     exact ⟨_,by simp only [iL,gK,qL,aq (show ¬((6+1:Nat):Int)≤6 by omega),cond_false],l,rfl,q1,q2⟩) (by
     rintro k x hk ⟨l,rfl,q1,q2⟩
     obtain ⟨t,e3,ht⟩:=Q3 ((k+1:Nat):Int) (by omega) (by omega);refine .inr ⟨_,?_,l++[(((k+1:Nat):Int),IntKind.i64.wrap ((1:Int)+Int.tmod ((k+1:Nat):Int) 3),IntKind.i64.wrap ((1:Int)+Int.tmod ((k+1:Nat):Int) 2),t,())],rfl,by simp;omega,fun x hx => ?_⟩
     ·simp only [iL,gK,qL,ak (show ((k+1:Nat):Int)≤6 by omega),cond_true,e3,Option.bind_some,aT (show (l.length+1)*40≤lim by unfold lim;omega),aN (show k+1<4611686018427387904 by omega)]
     ·rcases List.mem_append.1 hx with hx | hx
      ·exact q2 x hx
      ·rw [List.mem_singleton] at hx;subst hx;show t.size≤61;omega) ⟨[],rfl,Nat.le_refl _,fun x hx=>by cases hx⟩
   have he:aJ iL (code,a2,s2,(0:Int),(0:Int),(0:Int),[],d,c,IntKind.i64.wrap ((1:Int)+v),[],[],(1:Int),())=some e:=he;obtain ⟨l,rfl,l1,l2⟩:=hq;rw [he];simp only [kD];generalize IntKind.i64.wrap ((1:Int)+v)=old;obtain ⟨e,he,hq⟩:=dG (round:=gH) (x:=(code,a2,s2,(0:Int),(0:Int),(0:Int),[],d,c,old,[],l,((0:Nat):Int),())) l.length
    (fun k x=>∃(a s:Int) (m:aV),x=(code,a,s,(0:Int),(0:Int),(0:Int),[],d,c,old,m,l,((k:Nat):Int),())∧m.length≤k∧(∀x∈m,ByteArray.size x.2.2.2.1≤61)∧cm code a)
    (fun e=>∃(a s:Int) (m:aV),e=.inl (code,a,s,(0:Int),(0:Int),(0:Int),[],d,c,old,m,())∧I2 m∧cm code a) (by
     rintro x ⟨a,s,m,rfl,q1,q2,q3⟩
     exact ⟨_,by simp only [gH,gK,nk,aA,aM,cond_false],a,s,m,rfl,⟨by omega,q2⟩,q3⟩) (by
     rintro k x hk ⟨a,s,m,rfl,q1,q2,q3⟩
     obtain ⟨b,a3,s3,e3,d3⟩:=qV code a s 3 q3 (by omega)
     cases b
     ·refine .inr ⟨_,?_,a3,s3,m++[l[k]],rfl,by simp;omega,fun x hx => ?_,d3⟩
      ·simp only [gH,gK,nk,aA,aE hk,cond_true,e3,Option.bind_some,Bool.not_false,ax,aF,fl hk,List.getElem?_eq_getElem hk,aT (show (m.length+1)*40≤lim by unfold lim;omega),aN (show k<4611686018427387904 by omega)]
      ·rcases List.mem_append.1 hx with hx | hx
       ·exact q2 x hx
       ·rw [List.mem_singleton] at hx;subst hx;exact l2 _ (List.getElem_mem hk)
     ·refine .inr ⟨_,?_,a3,s3,m,rfl,by omega,q2,d3⟩;simp only [gH,gK,nk,aA,aE hk,cond_true,e3,Option.bind_some,Bool.not_true,cond_false,aN (show k<4611686018427387904 by omega)]) ⟨a2,s2,[],rfl,Nat.le_refl _,(fun x hx=>by cases hx),d2⟩
   have he:aJ gH (code,a2,s2,(0:Int),(0:Int),(0:Int),[],d,c,old,[],l,(0:Int),())=some e:=he;obtain ⟨a,s,m,rfl,m1,m2⟩:=hq;rw [he];exact ⟨_,_,_,_,_,_,rfl,m1,m2⟩
  ·exact ⟨_,_,_,_,_,_,rfl,I2.nil,d1⟩
 ·rw [aq h1];exact ⟨_,_,_,_,_,_,rfl,I2.nil,h⟩
theorem MK (code:List (Int×Unit)) (at_ j7:Int) (h:cm code at_):∃b0 b1 b2 l wA s',fL code at_ j7=some (b0,b1,b2,l,code,wA,s',())∧I2 l∧cm code wA:=by
 obtain ⟨c,xs,a1,s1,e1,r1,_,_,d1⟩:=QU code at_ j7 h;obtain ⟨v,a2,s2,e2,v0,v1,d2⟩:=dV code a1 s1 4 d1 (by omega);have h0:0<xs.length:=r1.some_;have hw:IntKind.i64.wrap ((1:Int)+v)=1+v:=cD (by omega) (by omega);obtain ⟨b0,b1,b2,l,a3,s3,e3,l3,d3⟩:=UE code a2 s2 d2 (1+v) xs xs[0].1 (by omega);obtain ⟨w,a4,s4,e4,_,_,d4⟩:=dV code a3 s3 20 d3 (by omega);unfold fL;delta aA;simp only [e1,e2,Option.bind_some,fl h0,cond_true,List.getElem?_eq_getElem h0,hw,e3,e4]
 cases decide (w=0)
 case true=>
  obtain ⟨x,a5,s5,e5,_,d5⟩:=zM code a4 s4 [((0:Int),()),((5:Int),()),((6:Int),())] d4 (by simp);simp only [e5,Option.bind_some,cond_true];exact ⟨_,_,_,_,_,_,rfl,l3,d5⟩
 cases decide (w=1)
 case true=>
  obtain ⟨x,a5,s5,e5,_,d5⟩:=zM code a4 s4 [((0:Int),()),((9:Int),()),((10:Int),())] d4 (by simp);simp only [e5,Option.bind_some,cond_true];exact ⟨_,_,_,_,_,_,rfl,l3,d5⟩
 cases decide (w=2)
 case true=>
  obtain ⟨x,a5,s5,e5,_,d5⟩:=zM code a4 s4 [((-1:Int),()),((0:Int),()),(b1,())] d4 (by simp);simp only [e5,Option.bind_some,cond_true];exact ⟨_,_,_,_,_,_,rfl,l3,d5⟩
 cases decide (w=3)
 case true=>
  obtain ⟨m,a5,s5,e5,m5,d5,hx⟩:=OQ code a4 s4 d4;simp only [e5,Option.bind_some,cond_true];exact ⟨_,_,_,_,_,_,rfl,⟨m5,hx⟩,d5⟩
 exact ⟨_,_,_,_,_,_,rfl,l3,d4⟩
def O0 (l:List dS) (n:Nat):Prop:=l.length≤n∧∀b∈l,I2 b.2.2.2.1
theorem O0.snoc {l:List dS} {n:Nat} (h:O0 l n) {b:dS} (hb:I2 b.2.2.2.1):O0 (l++[b]) (n+1):=
 ⟨by have:=h.1;simp;omega,fun x hx=>by
  rcases List.mem_append.1 hx with hx | hx
  ·exact h.2 x hx
  ·rw [List.mem_singleton] at hx;subst hx;exact hb⟩
theorem O0.up {l:List dS} {n m:Nat} (h:O0 l n) (hm:n≤m):O0 l m:=⟨Nat.le_trans h.1 hm,h.2⟩
theorem O0.w {l:List dS} {n:Nat} (h:O0 l n):l.length+wl ef l≤621*n:=by
 have:=La ef 620 l (fun b hb=>(h.2 b hb).w);have:=h.1;have:=Nat.mul_le_mul_left 620 this;omega
end Go.TM
