/- The world's life, as the reference plays it: every deed. -/
import Derived.Test.YtiljcjnnhkidbaaGreatOPWldL
set_option linter.unusedSimpArgs false
set_option linter.unusedVariables false
namespace Go.TM
open Go
def IJ (d:bZ) (id:Int) (l:aW):aW:=l.filter fun x=>decide (x.2.1=id)
theorem Om (d:bZ) (id:Int) (l:aW):(IJ d id l).length≤l.length:=List.length_filter_le _ _
theorem Xd (w:me) (id:Int) (d:bZ) (hl:(d.2.2.2.2.2.1).length≤1048576) :
  aI jm (w.1,w.2.1,w.2.2.1,w.2.2.2.1,id,d.1,d.2.1,d.2.2.1,d.2.2.2.1,d.2.2.2.2.1,d.2.2.2.2.2.1,d.2.2.2.2.2.2.1,d.2.2.2.2.2.2.2.1,d.2.2.2.2.2.2.2.2.1,d.2.2.2.2.2.2.2.2.2.1,d.2.2.2.2.2.2.2.2.2.2.1,d.2.2.2.2.2.2.2.2.2.2.2.1,d.2.2.2.2.2.2.2.2.2.2.2.2.1,d.2.2.2.2.2.2.2.2.2.2.2.2.2.1,d.2.2.2.2.2.2.2.2.2.2.2.2.2.2.1,d.2.2.2.2.2.2.2.2.2.2.2.2.2.2.2.1,d.2.2.2.2.2.2.2.2.2.2.2.2.2.2.2.2.1,d.2.2.2.2.2.2.2.2.2.2.2.2.2.2.2.2.2.1,d.2.2.2.2.2.2.2.2.2.2.2.2.2.2.2.2.2.2.1,d.2.2.2.2.2.2.2.2.2.2.2.2.2.2.2.2.2.2.2.1,d.2.2.2.2.2.2.2.2.2.2.2.2.2.2.2.2.2.2.2.2.1,d.2.2.2.2.2.2.2.2.2.2.2.2.2.2.2.2.2.2.2.2.2.1,d.2.2.2.2.2.2.2.2.2.2.2.2.2.2.2.2.2.2.2.2.2.2.1,d.2.2.2.2.2.2.2.2.2.2.2.2.2.2.2.2.2.2.2.2.2.2.2.1,[],(0:Int),())=some (.inl (w.1,w.2.1,w.2.2.1,w.2.2.2.1,id,d.1,d.2.1,d.2.2.1,d.2.2.2.1,d.2.2.2.2.1,d.2.2.2.2.2.1,d.2.2.2.2.2.2.1,d.2.2.2.2.2.2.2.1,d.2.2.2.2.2.2.2.2.1,d.2.2.2.2.2.2.2.2.2.1,d.2.2.2.2.2.2.2.2.2.2.1,d.2.2.2.2.2.2.2.2.2.2.2.1,d.2.2.2.2.2.2.2.2.2.2.2.2.1,d.2.2.2.2.2.2.2.2.2.2.2.2.2.1,d.2.2.2.2.2.2.2.2.2.2.2.2.2.2.1,d.2.2.2.2.2.2.2.2.2.2.2.2.2.2.2.1,d.2.2.2.2.2.2.2.2.2.2.2.2.2.2.2.2.1,d.2.2.2.2.2.2.2.2.2.2.2.2.2.2.2.2.2.1,d.2.2.2.2.2.2.2.2.2.2.2.2.2.2.2.2.2.2.1,d.2.2.2.2.2.2.2.2.2.2.2.2.2.2.2.2.2.2.2.1,d.2.2.2.2.2.2.2.2.2.2.2.2.2.2.2.2.2.2.2.2.1,d.2.2.2.2.2.2.2.2.2.2.2.2.2.2.2.2.2.2.2.2.2.1,d.2.2.2.2.2.2.2.2.2.2.2.2.2.2.2.2.2.2.2.2.2.2.1,d.2.2.2.2.2.2.2.2.2.2.2.2.2.2.2.2.2.2.2.2.2.2.2.1,IJ d id d.2.2.2.2.2.1,())):=by
 have l1:=ca (round:=jm) (e:=.inl (w.1,w.2.1,w.2.2.1,w.2.2.2.1,id,d.1,d.2.1,d.2.2.1,d.2.2.2.1,d.2.2.2.2.1,d.2.2.2.2.2.1,d.2.2.2.2.2.2.1,d.2.2.2.2.2.2.2.1,d.2.2.2.2.2.2.2.2.1,d.2.2.2.2.2.2.2.2.2.1,d.2.2.2.2.2.2.2.2.2.2.1,d.2.2.2.2.2.2.2.2.2.2.2.1,d.2.2.2.2.2.2.2.2.2.2.2.2.1,d.2.2.2.2.2.2.2.2.2.2.2.2.2.1,d.2.2.2.2.2.2.2.2.2.2.2.2.2.2.1,d.2.2.2.2.2.2.2.2.2.2.2.2.2.2.2.1,d.2.2.2.2.2.2.2.2.2.2.2.2.2.2.2.2.1,d.2.2.2.2.2.2.2.2.2.2.2.2.2.2.2.2.2.1,d.2.2.2.2.2.2.2.2.2.2.2.2.2.2.2.2.2.2.1,d.2.2.2.2.2.2.2.2.2.2.2.2.2.2.2.2.2.2.2.1,d.2.2.2.2.2.2.2.2.2.2.2.2.2.2.2.2.2.2.2.2.1,d.2.2.2.2.2.2.2.2.2.2.2.2.2.2.2.2.2.2.2.2.2.1,d.2.2.2.2.2.2.2.2.2.2.2.2.2.2.2.2.2.2.2.2.2.2.1,d.2.2.2.2.2.2.2.2.2.2.2.2.2.2.2.2.2.2.2.2.2.2.2.1,IJ d id d.2.2.2.2.2.1,())) (d.2.2.2.2.2.1).length (fun k=>(w.1,w.2.1,w.2.2.1,w.2.2.2.1,id,d.1,d.2.1,d.2.2.1,d.2.2.2.1,d.2.2.2.2.1,d.2.2.2.2.2.1,d.2.2.2.2.2.2.1,d.2.2.2.2.2.2.2.1,d.2.2.2.2.2.2.2.2.1,d.2.2.2.2.2.2.2.2.2.1,d.2.2.2.2.2.2.2.2.2.2.1,d.2.2.2.2.2.2.2.2.2.2.2.1,d.2.2.2.2.2.2.2.2.2.2.2.2.1,d.2.2.2.2.2.2.2.2.2.2.2.2.2.1,d.2.2.2.2.2.2.2.2.2.2.2.2.2.2.1,d.2.2.2.2.2.2.2.2.2.2.2.2.2.2.2.1,d.2.2.2.2.2.2.2.2.2.2.2.2.2.2.2.2.1,d.2.2.2.2.2.2.2.2.2.2.2.2.2.2.2.2.2.1,d.2.2.2.2.2.2.2.2.2.2.2.2.2.2.2.2.2.2.1,d.2.2.2.2.2.2.2.2.2.2.2.2.2.2.2.2.2.2.2.1,d.2.2.2.2.2.2.2.2.2.2.2.2.2.2.2.2.2.2.2.2.1,d.2.2.2.2.2.2.2.2.2.2.2.2.2.2.2.2.2.2.2.2.2.1,d.2.2.2.2.2.2.2.2.2.2.2.2.2.2.2.2.2.2.2.2.2.2.1,d.2.2.2.2.2.2.2.2.2.2.2.2.2.2.2.2.2.2.2.2.2.2.2.1,IJ d id ((d.2.2.2.2.2.1).take k),((k:Nat):Int),())) (by
  simp only [jm,az,aP,rC,aA,aM,cond_false,List.take_length]) (fun k hk=>by
  have hb:=Om d id ((d.2.2.2.2.2.1).take k);rw [List.length_take] at hb;have e:IJ d id ((d.2.2.2.2.2.1).take (k+1))=IJ d id ((d.2.2.2.2.2.1).take k)++(bif decide ((d.2.2.2.2.2.1)[k].2.1=id) then [(d.2.2.2.2.2.1)[k]] else []):=by
   unfold IJ;rw [List.take_succ_eq_append_getElem hk,List.filter_append,List.filter_cons,List.filter_nil]
   cases decide ((d.2.2.2.2.2.1)[k].2.1=id)<;>rfl
  simp only [jm,az,aP,rC,aA,e,aD hk,ax,cond_true,aF,List.getElem?_eq_getElem hk,Option.bind_some,aT (show ((IJ d id ((d.2.2.2.2.2.1).take k)).length+1)*40≤lim by unfold lim;omega),aN (show k<4611686018427387904 by omega)]
  cases decide ((d.2.2.2.2.2.1)[k].2.1=id)
  ·simp only [cond_false,List.append_nil]
  ·rfl)
 exact l1
theorem On {n:Nat} {w:me} (h:jM n w) (hn:n≤98) {k:Nat} (hk:k<w.2.1.length):∃a w',si w.1 w.2.1 w.2.2.1 w.2.2.2.1 ((k+1:Nat):Int)=some (a,w'.1,w'.2.1,w'.2.2.1,w'.2.2.2.1,())∧jM (n+1) w':=by
 have hf:=h.Gx;have h5:=h.Ad;obtain ⟨hd,wi⟩:=h.F6 k hk;generalize hdd:w.2.1[k]=d at hd wi;have hW:=hd.small (by omega);have e1:ff d.1 d.2.1 d.2.2.1 d.2.2.2.1 d.2.2.2.2.1 d.2.2.2.2.2.1 d.2.2.2.2.2.2.1 d.2.2.2.2.2.2.2.1 d.2.2.2.2.2.2.2.2.1 d.2.2.2.2.2.2.2.2.2.1 d.2.2.2.2.2.2.2.2.2.2.1 d.2.2.2.2.2.2.2.2.2.2.2.1 d.2.2.2.2.2.2.2.2.2.2.2.2.1 d.2.2.2.2.2.2.2.2.2.2.2.2.2.1 d.2.2.2.2.2.2.2.2.2.2.2.2.2.2.1 d.2.2.2.2.2.2.2.2.2.2.2.2.2.2.2.1 d.2.2.2.2.2.2.2.2.2.2.2.2.2.2.2.2.1 d.2.2.2.2.2.2.2.2.2.2.2.2.2.2.2.2.2.1 d.2.2.2.2.2.2.2.2.2.2.2.2.2.2.2.2.2.2.1 d.2.2.2.2.2.2.2.2.2.2.2.2.2.2.2.2.2.2.2.1 d.2.2.2.2.2.2.2.2.2.2.2.2.2.2.2.2.2.2.2.2.1 d.2.2.2.2.2.2.2.2.2.2.2.2.2.2.2.2.2.2.2.2.2.1 d.2.2.2.2.2.2.2.2.2.2.2.2.2.2.2.2.2.2.2.2.2.2.1 d.2.2.2.2.2.2.2.2.2.2.2.2.2.2.2.2.2.2.2.2.2.2.2.1=some (gd d,()):=xU d hW;have e2:fm d.2.2.2.2.2.2.2.2.2.2.2.2.1 d.2.2.2.2.2.2.2.2.2.2.2.2.2.1 d.2.2.2.2.2.2.2.2.2.2.2.2.2.2.1 d.2.2.2.2.2.2.2.2.2.2.2.2.2.2.2.1 d.2.2.2.2.2.2.2.2.2.2.2.2.2.2.2.2.1 d.2.2.2.2.2.2.2.2.2.2.2.2.2.2.2.2.2.1=some (v8 (d.2.2.2.2.2.2.2.2.2.2.2.2.1,d.2.2.2.2.2.2.2.2.2.2.2.2.2.1,d.2.2.2.2.2.2.2.2.2.2.2.2.2.2.1,d.2.2.2.2.2.2.2.2.2.2.2.2.2.2.2.1,d.2.2.2.2.2.2.2.2.2.2.2.2.2.2.2.2.1,d.2.2.2.2.2.2.2.2.2.2.2.2.2.2.2.2.2.1,()),()):=(wa (d.2.2.2.2.2.2.2.2.2.2.2.2.1,d.2.2.2.2.2.2.2.2.2.2.2.2.2.1,d.2.2.2.2.2.2.2.2.2.2.2.2.2.2.1,d.2.2.2.2.2.2.2.2.2.2.2.2.2.2.2.1,d.2.2.2.2.2.2.2.2.2.2.2.2.2.2.2.2.1,d.2.2.2.2.2.2.2.2.2.2.2.2.2.2.2.2.2.1,())).1;unfold si;delta az aw aP bD;simp only [wg (show k<1000 by omega),ax,cond_true,aF,List.getElem?_eq_getElem hk,Option.bind_some,hdd,e1]
 cases hi:gd d
 ·exact ⟨1,w,rfl,h.up (Nat.le_succ n)⟩
 simp only [Bool.not_true,cond_false];rw [e2];simp only [Option.bind_some]
 cases hb:v8 (d.2.2.2.2.2.2.2.2.2.2.2.2.1,d.2.2.2.2.2.2.2.2.2.2.2.2.2.1,d.2.2.2.2.2.2.2.2.2.2.2.2.2.2.1,d.2.2.2.2.2.2.2.2.2.2.2.2.2.2.2.1,d.2.2.2.2.2.2.2.2.2.2.2.2.2.2.2.2.1,d.2.2.2.2.2.2.2.2.2.2.2.2.2.2.2.2.2.1,())
 case true=>exact ⟨1,w,rfl,h.up (Nat.le_succ n)⟩
 obtain ⟨m1,m2,_,_⟩:=uT hW hi;have hT:L4 (d.2.2.2.2.2.2.2.2.2.2.2.2.1,d.2.2.2.2.2.2.2.2.2.2.2.2.2.1,d.2.2.2.2.2.2.2.2.2.2.2.2.2.2.1,d.2.2.2.2.2.2.2.2.2.2.2.2.2.2.2.1,d.2.2.2.2.2.2.2.2.2.2.2.2.2.2.2.2.1,d.2.2.2.2.2.2.2.2.2.2.2.2.2.2.2.2.2.1,()):=by
  rcases m1.last with q | q
  ·have:=(wa (d.2.2.2.2.2.2.2.2.2.2.2.2.1,d.2.2.2.2.2.2.2.2.2.2.2.2.2.1,d.2.2.2.2.2.2.2.2.2.2.2.2.2.2.1,d.2.2.2.2.2.2.2.2.2.2.2.2.2.2.2.1,d.2.2.2.2.2.2.2.2.2.2.2.2.2.2.2.2.1,d.2.2.2.2.2.2.2.2.2.2.2.2.2.2.2.2.2.1,())).2.2.2 q;rw [hb] at this;cases this
  ·exact q
 have Xy:=(dv _ m1.items).1;have Xy:(d.2.2.2.2.2.1).length≤60:=Xy;have l1:=Xd w ((k+1:Nat):Int) d (by omega);have Ga:(((k+1:Nat):Int),())∈(aJ d).2.2.1:=by
  have h1:=m1.mem;have m2:(aJ d).1=d.1:=m2;rw [m2,wi] at h1;exact h1
 obtain ⟨BU,Y0,e3⟩:=K5 w m1.ring Ga (d.2.2.2.2.2.2.2.2.2.2.2.2.1,d.2.2.2.2.2.2.2.2.2.2.2.2.2.1,d.2.2.2.2.2.2.2.2.2.2.2.2.2.2.1,d.2.2.2.2.2.2.2.2.2.2.2.2.2.2.2.1,d.2.2.2.2.2.2.2.2.2.2.2.2.2.2.2.2.1,d.2.2.2.2.2.2.2.2.2.2.2.2.2.2.2.2.2.1,()) (by omega) (Nat.le_trans hT.2.2.2.2.2.1 (by decide));have Ro:=Om d ((k+1:Nat):Int) d.2.2.2.2.2.1;have e4:=K4 (fE w (w.2.2.1++[xl BU (aJ d).2.1 (d.2.2.2.2.2.2.2.2.2.2.2.2.1,d.2.2.2.2.2.2.2.2.2.2.2.2.2.1,d.2.2.2.2.2.2.2.2.2.2.2.2.2.2.1,d.2.2.2.2.2.2.2.2.2.2.2.2.2.2.2.1,d.2.2.2.2.2.2.2.2.2.2.2.2.2.2.2.2.1,d.2.2.2.2.2.2.2.2.2.2.2.2.2.2.2.2.2.1,())])) (aJ d).2.1 (aJ d).2.2.1 ((k+1:Nat):Int) (IJ d ((k+1:Nat):Int) d.2.2.2.2.2.1) m1.ring.2.1.2 (by show (w.2.2.1++[_]).length≤_;rw [List.length_append,List.length_singleton];omega) (by omega);have e3:lW w.1 w.2.1 w.2.2.1 w.2.2.2.1 d.2.2.2.1 d.2.2.2.2.1 ((k+1:Nat):Int) d.2.2.2.2.2.2.2.2.2.2.2.2.1 d.2.2.2.2.2.2.2.2.2.2.2.2.2.1 d.2.2.2.2.2.2.2.2.2.2.2.2.2.2.1 d.2.2.2.2.2.2.2.2.2.2.2.2.2.2.2.1 d.2.2.2.2.2.2.2.2.2.2.2.2.2.2.2.2.1 d.2.2.2.2.2.2.2.2.2.2.2.2.2.2.2.2.2.1=_:=e3;have htl:=zH (aJ d).2.2.1 (aJ d).2.1 ((k+1:Nat):Int) m1.ring.2.1.2 (IJ d ((k+1:Nat):Int) d.2.2.2.2.2.1);refine ⟨0,fE (fE w (w.2.2.1++[xl BU (aJ d).2.1 (d.2.2.2.2.2.2.2.2.2.2.2.2.1,d.2.2.2.2.2.2.2.2.2.2.2.2.2.1,d.2.2.2.2.2.2.2.2.2.2.2.2.2.2.1,d.2.2.2.2.2.2.2.2.2.2.2.2.2.2.2.1,d.2.2.2.2.2.2.2.2.2.2.2.2.2.2.2.2.1,d.2.2.2.2.2.2.2.2.2.2.2.2.2.2.2.2.2.1,())])) ((w.2.2.1++[xl BU (aJ d).2.1 (d.2.2.2.2.2.2.2.2.2.2.2.2.1,d.2.2.2.2.2.2.2.2.2.2.2.2.2.1,d.2.2.2.2.2.2.2.2.2.2.2.2.2.2.1,d.2.2.2.2.2.2.2.2.2.2.2.2.2.2.2.1,d.2.2.2.2.2.2.2.2.2.2.2.2.2.2.2.2.1,d.2.2.2.2.2.2.2.2.2.2.2.2.2.2.2.2.2.1,())])++dq (aJ d).2.2.1 (aJ d).2.1 ((k+1:Nat):Int) (IJ d ((k+1:Nat):Int) d.2.2.2.2.2.1)),?_,?_⟩
 ·simp only [cond_false];rw [l1];simp only [bW,Option.bind_some];rw [e3];simp only [Option.bind_some];rw [e4];rfl
 ·refine jM.fE (w:=fE w _) ((h.up (Nat.le_succ n)).fE (fun x hx => ?_) ?_) (fun x hx => ?_) ?_
  ·rcases List.mem_append.1 hx with hx | hx
   ·exact h.lets x hx
   ·rw [List.mem_singleton] at hx;subst hx;exact II Y0 hT.2.2.2.2.2.1
  ·rw [List.length_append,List.length_singleton];omega
  ·rcases List.mem_append.1 hx with hx | hx
   ·rcases List.mem_append.1 hx with hx | hx
    ·exact h.lets x hx
    ·rw [List.mem_singleton] at hx;subst hx;exact II Y0 hT.2.2.2.2.2.1
   ·exact Mn m1.ring x hx
  ·rw [List.length_append,List.length_append,List.length_singleton];omega
theorem Qt {n:Nat} {w:me} (h:jM n w) (hn:n≤98) {x:Gl} (hx:Jv x):∃a w',gq w.1 w.2.1 w.2.2.1 w.2.2.2.1 x.1 x.2.1 x.2.2.1 x.2.2.2.1 x.2.2.2.2.1 x.2.2.2.2.2.1 x.2.2.2.2.2.2.1 x.2.2.2.2.2.2.2.1 x.2.2.2.2.2.2.2.2.1 x.2.2.2.2.2.2.2.2.2.1 x.2.2.2.2.2.2.2.2.2.2.1 x.2.2.2.2.2.2.2.2.2.2.2.1 x.2.2.2.2.2.2.2.2.2.2.2.2.1 x.2.2.2.2.2.2.2.2.2.2.2.2.2.1 x.2.2.2.2.2.2.2.2.2.2.2.2.2.2.1 x.2.2.2.2.2.2.2.2.2.2.2.2.2.2.2.1 x.2.2.2.2.2.2.2.2.2.2.2.2.2.2.2.2.1=some (a,w'.1,w'.2.1,w'.2.2.1,w'.2.2.2.1,())∧jM (n+1) w':=by
 have h5:=h.Ad;obtain ⟨k,hk⟩:=Int.eq_ofNat_of_zero_le (show 0≤x.2.1-1 by have:=hx.BU;omega);have Y0:x.2.1=((k+1:Nat):Int):=by omega
 have hk:k<w.2.1.length:=by have:=hx.BU;omega
 obtain ⟨hd,wi⟩:=h.F6 k hk;unfold gq;delta az;simp only [Y0,wg (show k<1000 by omega),ax,cond_true,aF,List.getElem?_eq_getElem hk,Option.bind_some]
 by_cases k1:x.1=1
 ·have e1:=(B7 w.2.1[k] x.2.2.1 (x.2.2.2.1,x.2.2.2.2.1,x.2.2.2.2.2.1,x.2.2.2.2.2.2.1,()) (hd.small (by omega))).1;obtain ⟨g1,g2⟩:=IF hd (by omega) x.2.2.1 (x.2.2.2.1,x.2.2.2.2.1,x.2.2.2.2.2.1,x.2.2.2.2.2.2.1,());have e2:=py w (by omega) hk (lC w.2.1[k] x.2.2.1 (x.2.2.2.1,x.2.2.2.2.1,x.2.2.2.2.2.1,x.2.2.2.2.2.2.1,())) (g2.trans wi);simp only [ak k1,cond_true];rw [e1];simp only [Option.bind_some];rw [e2];exact ⟨0,_,rfl,(h.up (Nat.le_succ n)).Ac hk g1 g2⟩
 by_cases k2:x.1=2
 ·obtain ⟨a,w',e1,hw⟩:=F7 h (by omega) hk (x.2.2.2.2.2.2.2.1,x.2.2.2.2.2.2.2.2.1,x.2.2.2.2.2.2.2.2.2.1,x.2.2.2.2.2.2.2.2.2.2.1,x.2.2.2.2.2.2.2.2.2.2.2.1,x.2.2.2.2.2.2.2.2.2.2.2.2.1,()) (Nat.le_trans hx.N8 (by decide));simp only [aq k1,ak k2,cond_true,cond_false];rw [e1];exact ⟨a,w',rfl,hw⟩
 ·have hbl:(x.2.2.2.2.2.2.2.2.2.2.2.2.2.2.2.2.1).length≤1048576:=Nat.le_trans hx.bun (by decide);have e1:=(D9 w.2.1[k] (x.2.2.2.2.2.2.2.2.2.2.2.2.2.1,x.2.2.2.2.2.2.2.2.2.2.2.2.2.2.1,x.2.2.2.2.2.2.2.2.2.2.2.2.2.2.2.1,x.2.2.2.2.2.2.2.2.2.2.2.2.2.2.2.2.1,()) (hd.small (by omega)) hbl).1;simp only [aq k1,aq k2,cond_false];rw [e1];simp only [Option.bind_some]
  cases hb:(bj w.2.1[k] (x.2.2.2.2.2.2.2.2.2.2.2.2.2.1,x.2.2.2.2.2.2.2.2.2.2.2.2.2.2.1,x.2.2.2.2.2.2.2.2.2.2.2.2.2.2.2.1,x.2.2.2.2.2.2.2.2.2.2.2.2.2.2.2.2.1,())).2
  ·exact ⟨1,w,rfl,h.up (Nat.le_succ n)⟩
  ·obtain ⟨g1,g2,_⟩:=K2 hd (by omega) (b:=(x.2.2.2.2.2.2.2.2.2.2.2.2.2.1,x.2.2.2.2.2.2.2.2.2.2.2.2.2.2.1,x.2.2.2.2.2.2.2.2.2.2.2.2.2.2.2.1,x.2.2.2.2.2.2.2.2.2.2.2.2.2.2.2.2.1,())) hbl hb;have e2:=py w (by omega) hk (bj w.2.1[k] (x.2.2.2.2.2.2.2.2.2.2.2.2.2.1,x.2.2.2.2.2.2.2.2.2.2.2.2.2.2.1,x.2.2.2.2.2.2.2.2.2.2.2.2.2.2.2.1,x.2.2.2.2.2.2.2.2.2.2.2.2.2.2.2.2.1,())).1 (g2.trans wi);simp only [Bool.not_true,cond_false];rw [e2];exact ⟨0,_,rfl,(h.up (Nat.le_succ n)).Ac hk g1 g2⟩
abbrev Gm:Type:=Int×Int×Int×Int×ByteArray×Unit
structure Fo (e:Gm):Prop where
 kind:1≤e.1∧e.1≤9
 id:1≤e.2.1∧e.2.1≤5
 at_:0≤e.2.2.1
 say:e.1=1→(1≤e.2.2.2.1∧e.2.2.2.1≤2)∧ByteArray.size e.2.2.2.2.1≤60
 no:e.1≠1→e.2.2.2.1=0∧e.2.2.2.2.1=ByteArray.empty
theorem Mo {n:Nat} {w:me} (h:jM n w) (hn:n≤98) {e:Gm} (he:Fo e):∃a w',jG w.1 w.2.1 w.2.2.1 w.2.2.2.1 e.1 e.2.1 e.2.2.1 e.2.2.2.1 e.2.2.2.2.1=some (a,w'.1,w'.2.1,w'.2.2.1,w'.2.2.2.1,())∧jM (n+1) w':=by
 have hf:=h.Gx;unfold jG;delta ba
 by_cases h0:w.2.2.1.length=0
 ·rw [ak (show ((List.length w.2.2.1:Nat):Int)=0 by omega)];exact ⟨1,w,rfl,h.up (Nat.le_succ n)⟩
 obtain ⟨i,hi⟩:=Int.eq_ofNat_of_zero_le he.at_;have dS:i % w.2.2.1.length<w.2.2.1.length:=Nat.mod_lt _ (by omega);generalize hj:i % w.2.2.1.length=j at dS;have et:Int.tmod e.2.2.1 ((List.length w.2.2.1:Nat):Int)=((j:Nat):Int):=by rw [hi,←hj];exact ZY _ _
 have hX:=h.lets _ (List.getElem_mem dS);simp only [aq (show ¬((List.length w.2.2.1:Nat):Int)=0 by omega),cond_false,et,ax,aF,List.getElem?_eq_getElem dS,Option.bind_some,cond_true]
 by_cases k5:e.1=5
 ·have hs:=Eg w (by omega) w.2.2.1[j];simp only [ak k5,cond_true];rw [hs];refine ⟨0,_,rfl,(h.up (Nat.le_succ n)).fE (fun x hx => ?_) ?_⟩
  ·rcases List.mem_append.1 hx with hx | hx
   ·exact h.lets x hx
   ·rw [List.mem_singleton] at hx;subst hx;exact hX
  ·rw [List.length_append,List.length_singleton];omega
 have RG:(List.take j w.2.2.1).length≤w.2.2.1.length:=by rw [List.length_take];omega
 have hl2:(List.drop (j+1) w.2.2.1).length≤w.2.2.1.length:=by rw [List.length_drop];omega
 have hW:jM n (fE w (List.take j w.2.2.1++List.drop (j+1) w.2.2.1)):=h.fE (fun x hx=>by
  rcases List.mem_append.1 hx with hx | hx
  ·exact h.lets x (List.mem_of_mem_take hx)
  ·exact h.lets x (List.mem_of_mem_drop hx)) (by rw [List.length_append,List.length_take,List.length_drop];omega)
 obtain ⟨b,w',e2,hw⟩:=Qt hW hn hX;have e2:gq w.1 w.2.1 (List.take j w.2.2.1++List.drop (j+1) w.2.2.1) w.2.2.2.1 (w.2.2.1[j]).1 (w.2.2.1[j]).2.1 (w.2.2.1[j]).2.2.1 (w.2.2.1[j]).2.2.2.1 (w.2.2.1[j]).2.2.2.2.1 (w.2.2.1[j]).2.2.2.2.2.1 (w.2.2.1[j]).2.2.2.2.2.2.1 (w.2.2.1[j]).2.2.2.2.2.2.2.1 (w.2.2.1[j]).2.2.2.2.2.2.2.2.1 (w.2.2.1[j]).2.2.2.2.2.2.2.2.2.1 (w.2.2.1[j]).2.2.2.2.2.2.2.2.2.2.1 (w.2.2.1[j]).2.2.2.2.2.2.2.2.2.2.2.1 (w.2.2.1[j]).2.2.2.2.2.2.2.2.2.2.2.2.1 (w.2.2.1[j]).2.2.2.2.2.2.2.2.2.2.2.2.2.1 (w.2.2.1[j]).2.2.2.2.2.2.2.2.2.2.2.2.2.2.1 (w.2.2.1[j]).2.2.2.2.2.2.2.2.2.2.2.2.2.2.2.1 (w.2.2.1[j]).2.2.2.2.2.2.2.2.2.2.2.2.2.2.2.2.1=some (b,w'.1,w'.2.1,w'.2.2.1,w'.2.2.2.1,()):=e2;simp only [aq k5,cond_false,ak (show ((j:Nat):Int)≤((List.length w.2.2.1:Nat):Int) by omega),cond_true,List.drop_zero,List.nil_append,aN (show j<4611686018427387904 by omega),ax,aF,
  ak (show (((j+1:Nat)):Int)≤((List.length w.2.2.1:Nat):Int) by omega),aT (show (0+(List.take j w.2.2.1).length)*176≤lim by unfold lim;omega),aT (show ((List.take j w.2.2.1).length+(List.drop (j+1) w.2.2.1).length)*176≤lim by unfold lim;omega),de]
 by_cases k4:e.1=4
 ·rw [ak k4];exact ⟨0,_,rfl,hW.up (Nat.le_succ n)⟩
 ·rw [aq k4,e2];exact ⟨b,w',rfl,hw⟩
theorem TO {n:Nat} {d:bZ} (h:lD n d) (hn:n≤100):pr d.1 d.2.1 d.2.2.1 d.2.2.2.1 d.2.2.2.2.1 d.2.2.2.2.2.1 d.2.2.2.2.2.2.1 d.2.2.2.2.2.2.2.1 d.2.2.2.2.2.2.2.2.1 d.2.2.2.2.2.2.2.2.2.1 d.2.2.2.2.2.2.2.2.2.2.1 d.2.2.2.2.2.2.2.2.2.2.2.1 d.2.2.2.2.2.2.2.2.2.2.2.2.1 d.2.2.2.2.2.2.2.2.2.2.2.2.2.1 d.2.2.2.2.2.2.2.2.2.2.2.2.2.2.1 d.2.2.2.2.2.2.2.2.2.2.2.2.2.2.2.1 d.2.2.2.2.2.2.2.2.2.2.2.2.2.2.2.2.1 d.2.2.2.2.2.2.2.2.2.2.2.2.2.2.2.2.2.1 d.2.2.2.2.2.2.2.2.2.2.2.2.2.2.2.2.2.2.1 d.2.2.2.2.2.2.2.2.2.2.2.2.2.2.2.2.2.2.2.1 d.2.2.2.2.2.2.2.2.2.2.2.2.2.2.2.2.2.2.2.2.1 d.2.2.2.2.2.2.2.2.2.2.2.2.2.2.2.2.2.2.2.2.2.1 d.2.2.2.2.2.2.2.2.2.2.2.2.2.2.2.2.2.2.2.2.2.2.1 d.2.2.2.2.2.2.2.2.2.2.2.2.2.2.2.2.2.2.2.2.2.2.2.1=some (gK d):=by
 have hW:=h.small hn;unfold mT at hW;unfold pr;rw [pb _ (by omega)];rfl
theorem TP (d:bZ) (h:mT d≤1048576):uN d.1 d.2.1 d.2.2.1 d.2.2.2.1 d.2.2.2.2.1 d.2.2.2.2.2.1 d.2.2.2.2.2.2.1 d.2.2.2.2.2.2.2.1 d.2.2.2.2.2.2.2.2.1 d.2.2.2.2.2.2.2.2.2.1 d.2.2.2.2.2.2.2.2.2.2.1 d.2.2.2.2.2.2.2.2.2.2.2.1 d.2.2.2.2.2.2.2.2.2.2.2.2.1 d.2.2.2.2.2.2.2.2.2.2.2.2.2.1 d.2.2.2.2.2.2.2.2.2.2.2.2.2.2.1 d.2.2.2.2.2.2.2.2.2.2.2.2.2.2.2.1 d.2.2.2.2.2.2.2.2.2.2.2.2.2.2.2.2.1 d.2.2.2.2.2.2.2.2.2.2.2.2.2.2.2.2.2.1 d.2.2.2.2.2.2.2.2.2.2.2.2.2.2.2.2.2.2.1 d.2.2.2.2.2.2.2.2.2.2.2.2.2.2.2.2.2.2.2.1 d.2.2.2.2.2.2.2.2.2.2.2.2.2.2.2.2.2.2.2.2.1 d.2.2.2.2.2.2.2.2.2.2.2.2.2.2.2.2.2.2.2.2.2.1 d.2.2.2.2.2.2.2.2.2.2.2.2.2.2.2.2.2.2.2.2.2.2.1 d.2.2.2.2.2.2.2.2.2.2.2.2.2.2.2.2.2.2.2.2.2.2.2.1=some ((ch d).1.1,(ch d).1.2.1,(ch d).1.2.2.1,(ch d).1.2.2.2.1,(ch d).1.2.2.2.2.1,(ch d).1.2.2.2.2.2.1,(ch d).1.2.2.2.2.2.2.1,(ch d).1.2.2.2.2.2.2.2.1,(ch d).1.2.2.2.2.2.2.2.2.1,(ch d).1.2.2.2.2.2.2.2.2.2.1,(ch d).1.2.2.2.2.2.2.2.2.2.2.1,(ch d).1.2.2.2.2.2.2.2.2.2.2.2.1,(ch d).1.2.2.2.2.2.2.2.2.2.2.2.2.1,(ch d).1.2.2.2.2.2.2.2.2.2.2.2.2.2.1,(ch d).1.2.2.2.2.2.2.2.2.2.2.2.2.2.2.1,(ch d).1.2.2.2.2.2.2.2.2.2.2.2.2.2.2.2.1,(ch d).1.2.2.2.2.2.2.2.2.2.2.2.2.2.2.2.2.1,(ch d).1.2.2.2.2.2.2.2.2.2.2.2.2.2.2.2.2.2.1,(ch d).1.2.2.2.2.2.2.2.2.2.2.2.2.2.2.2.2.2.2.1,(ch d).1.2.2.2.2.2.2.2.2.2.2.2.2.2.2.2.2.2.2.2.1,(ch d).1.2.2.2.2.2.2.2.2.2.2.2.2.2.2.2.2.2.2.2.2.1,(ch d).1.2.2.2.2.2.2.2.2.2.2.2.2.2.2.2.2.2.2.2.2.2.1,(ch d).1.2.2.2.2.2.2.2.2.2.2.2.2.2.2.2.2.2.2.2.2.2.2.1,(ch d).1.2.2.2.2.2.2.2.2.2.2.2.2.2.2.2.2.2.2.2.2.2.2.2.1,(ch d).2,()):=by
 obtain ⟨k1,k2,_⟩:=mc d h;obtain ⟨p1,p2⟩:=uE d h;unfold uN ch;delta db bA;simp only [k1,p1,Option.bind_some]
 cases hb:mb d
 ·rfl
 ·cases hd:d.2.1<;>rfl
theorem IK {n:Nat} {w:me} (h:jM n w) (hn:n≤98) {e:Gm} (he:Fo e):∃a w',pt w.1 w.2.1 w.2.2.1 w.2.2.2.1 e.1 e.2.1 e.2.2.1 e.2.2.2.1 e.2.2.2.2.1=some (a,w'.1,w'.2.1,w'.2.2.1,w'.2.2.2.1,())∧jM (n+1) w':=by
 have h5:=h.Ad;obtain ⟨k,hk⟩:=Int.eq_ofNat_of_zero_le (show 0≤e.2.1-1 by have:=he.id;omega);have Y0:e.2.1=((k+1:Nat):Int):=by omega
 have hk:k<w.2.1.length:=by have:=he.id;omega
 obtain ⟨hd,wi⟩:=h.F6 k hk;have hW:=hd.small (by omega);unfold pt;delta az aP;simp only [Y0,wg (show k<1000 by omega),ax,cond_true,aF,List.getElem?_eq_getElem hk,Option.bind_some]
 by_cases k1:e.1=1
 ·obtain ⟨a1,a2⟩:=he.say k1;have e1:=(NZ w.2.1[k] e.2.2.2.1 e.2.2.2.2.1 hW).1;simp only [ak k1,cond_true];rw [e1];simp only [Option.bind_some]
  cases hb:(bO w.2.1[k] e.2.2.2.1 e.2.2.2.2.1).2
  ·exact ⟨1,w,rfl,h.up (Nat.le_succ n)⟩
  ·obtain ⟨g1,g2⟩:=akI hd (by omega) a1 a2 hb;have e2:=py w (by omega) hk (bO w.2.1[k] e.2.2.2.1 e.2.2.2.2.1).1 (g2.trans wi);simp only [Bool.not_true,cond_false];rw [e2];exact ⟨0,_,rfl,(h.up (Nat.le_succ n)).Ac hk g1 g2⟩
 by_cases k2:e.1=2
 ·obtain ⟨t,b,e1,_,ht⟩:=D5 w.2.1[k] hW;simp only [aq k1,ak k2,cond_true,cond_false];rw [e1];simp only [Option.bind_some]
  cases b
  ·exact ⟨1,w,rfl,h.up (Nat.le_succ n)⟩
  ·obtain ⟨a,w',e2,hw⟩:=F7 h (by omega) hk t (by rw [ht];exact Nat.zero_le _);simp only [Bool.not_true,cond_false];rw [e2];exact ⟨a,w',rfl,hw⟩
 by_cases k6:e.1=6
 ·obtain ⟨a,w',e2,hw⟩:=On h hn hk;simp only [aq k1,aq k2,ak k6,cond_true,cond_false];rw [e2];exact ⟨a,w',rfl,hw⟩
 by_cases k7:e.1=7
 ·obtain ⟨a,w',e2,hw⟩:=Qs h hn hk;simp only [aq k1,aq k2,aq k6,ak k7,cond_true,cond_false];rw [e2];exact ⟨a,w',rfl,hw⟩
 by_cases k8:e.1=8
 ·simp only [aq k1,aq k2,aq k6,aq k7,ak k8,cond_true,cond_false]
  cases hb:(w.2.1[k]).2.1
  ·have e1:=TO hd (by omega);have e2:=py w (by omega) hk (gK w.2.1[k]) wi;rw [hb] at e1;simp only [cond_false];rw [e1];simp only [Option.bind_some];rw [e2];exact ⟨0,_,rfl,(h.up (Nat.le_succ n)).Ac hk ((W5 hd).up (Nat.le_succ n)) rfl⟩
  ·exact ⟨1,w,rfl,h.up (Nat.le_succ n)⟩
 by_cases k9:e.1=9
 ·have e1:=TP w.2.1[k] hW;simp only [aq k1,aq k2,aq k6,aq k7,aq k8,ak k9,cond_true,cond_false];rw [e1];simp only [Option.bind_some]
  cases hb:(ch w.2.1[k]).2
  ·exact ⟨1,w,rfl,h.up (Nat.le_succ n)⟩
  ·obtain ⟨g1,g2⟩:=W6 hd hb;have e2:=py w (by omega) hk (ch w.2.1[k]).1 (g2.trans wi);simp only [Bool.not_true,cond_false];rw [e2];exact ⟨0,_,rfl,(h.up (Nat.le_succ n)).Ac hk (g1.up (Nat.le_succ n)) g2⟩
 ·obtain ⟨a,w',e2,hw⟩:=Mo h hn he;rw [Y0] at e2;simp only [aq k1,aq k2,aq k6,aq k7,aq k8,aq k9,cond_false];rw [e2];exact ⟨a,w',rfl,hw⟩
end Go.TM
set_option linter.unusedSimpArgs false
set_option linter.unusedVariables false
namespace Go.TM
open Go
theorem Y1 {v:Int} (h:(v,())∈[((1:Int),()),(1,()),(1,()),(2,()),(3,()),(3,()),(3,()),(3,()),(3,()),(3,()),(3,()),(3,()),(3,()),(4,()),(5,()),(6,()),(7,()),(7,()),(8,()),(9,())]):1≤v∧v≤9:=by
 simp only [List.mem_cons,Prod.mk.injEq,and_true,List.not_mem_nil,or_false] at h;omega
theorem TQ (d:bZ) (h:mT d≤1048576):∃(t:mR) (b:Bool),nR d.1 d.2.1 d.2.2.1 d.2.2.2.1 d.2.2.2.2.1 d.2.2.2.2.2.1 d.2.2.2.2.2.2.1 d.2.2.2.2.2.2.2.1 d.2.2.2.2.2.2.2.2.1 d.2.2.2.2.2.2.2.2.2.1 d.2.2.2.2.2.2.2.2.2.2.1 d.2.2.2.2.2.2.2.2.2.2.2.1 d.2.2.2.2.2.2.2.2.2.2.2.2.1 d.2.2.2.2.2.2.2.2.2.2.2.2.2.1 d.2.2.2.2.2.2.2.2.2.2.2.2.2.2.1 d.2.2.2.2.2.2.2.2.2.2.2.2.2.2.2.1 d.2.2.2.2.2.2.2.2.2.2.2.2.2.2.2.2.1 d.2.2.2.2.2.2.2.2.2.2.2.2.2.2.2.2.2.1 d.2.2.2.2.2.2.2.2.2.2.2.2.2.2.2.2.2.2.1 d.2.2.2.2.2.2.2.2.2.2.2.2.2.2.2.2.2.2.2.1 d.2.2.2.2.2.2.2.2.2.2.2.2.2.2.2.2.2.2.2.2.1 d.2.2.2.2.2.2.2.2.2.2.2.2.2.2.2.2.2.2.2.2.2.1 d.2.2.2.2.2.2.2.2.2.2.2.2.2.2.2.2.2.2.2.2.2.2.1 d.2.2.2.2.2.2.2.2.2.2.2.2.2.2.2.2.2.2.2.2.2.2.2.1=some (t.1,t.2.1,t.2.2.1,t.2.2.2.1,t.2.2.2.2.1,t.2.2.2.2.2.1,b,()):=by
 obtain ⟨t,b,e,_⟩:=D5 d h;exact ⟨t,b,e⟩
theorem IL (code:List (Int×Unit)) (a s:Int) {n:Nat} {w:me} (h:jM n w) (hn:n≤98) {v id b:Int} (hv:v=2∨v=7) (wi:1≤id∧id≤3) :
  ∃ss,(1≤ss∧ss≤3)∧aI iI (code,a,s,w.1,w.2.1,w.2.2.1,w.2.2.2.1,(0:Int),(0:Int),(0:Int),(0:Int),ByteArray.empty,v,id,b,(0:Int),ByteArray.empty,(0:Int),())=some (.inl (code,a,s,w.1,w.2.1,w.2.2.1,w.2.2.2.1,(0:Int),(0:Int),(0:Int),(0:Int),ByteArray.empty,v,ss,b,(0:Int),ByteArray.empty,())):=by
 have h5:=h.Ad;obtain ⟨e,he,ss,rfl,hq⟩:=dA (round:=iI) (x:=(code,a,s,w.1,w.2.1,w.2.2.1,w.2.2.2.1,(0:Int),(0:Int),(0:Int),(0:Int),ByteArray.empty,v,id,b,(0:Int),ByteArray.empty,((0:Nat):Int),())) 3
  (fun k x=>∃ss,x=(code,a,s,w.1,w.2.1,w.2.2.1,w.2.2.2.1,(0:Int),(0:Int),(0:Int),(0:Int),ByteArray.empty,v,ss,b,(0:Int),ByteArray.empty,((k:Nat):Int),())∧1≤ss∧ss≤3)
  (fun e=>∃ss,e=.inl (code,a,s,w.1,w.2.1,w.2.2.1,w.2.2.2.1,(0:Int),(0:Int),(0:Int),(0:Int),ByteArray.empty,v,ss,b,(0:Int),ByteArray.empty,())∧1≤ss∧ss≤3) (by
   rintro x ⟨ss,rfl,g⟩
   exact ⟨_,by simp only [iI,ba,sU,az,aq (show ¬((3:Nat):Int)<3 by omega),cond_false],ss,rfl,g⟩) (by
   rintro k x hk ⟨ss,rfl,g⟩
   have hk5:k<w.2.1.length:=by omega
   obtain ⟨t,fb,e1⟩:=TQ w.2.1[k] ((h.F6 k hk5).1.small (by omega));obtain ⟨j,hj⟩:=Int.eq_ofNat_of_zero_le (show 0≤ss-1 by omega);have Ve:ss=((j+1:Nat):Int):=by omega
   have hj5:j<w.2.1.length:=by omega
   have Wm:IntKind.i64.wrap (((k:Nat):Int)+1)=((k+1:Nat):Int):=aN (show k<4611686018427387904 by omega);simp only [iI,ba,sU,az,ak (show ((k:Nat):Int)<3 by omega),cond_true,ax,aF,List.getElem?_eq_getElem hk5,Option.bind_some,e1,Wm];rcases hv with hv | hv
   ·simp only [ak hv,aq (show ¬v=7 by omega),cond_true,cond_false]
    cases fb
    ·exact .inr ⟨_,rfl,ss,rfl,g⟩
    ·exact .inr ⟨_,rfl,((k+1:Nat):Int),rfl,by omega,by omega⟩
   ·simp only [aq (show ¬v=2 by omega),ak hv,cond_true,cond_false,Ve,wg (show j<1000 by omega),ax,aF,List.getElem?_eq_getElem hj5,Option.bind_some];rw [←Ve]
    cases fb
    ·simp only [cond_false]
     cases decide ((w.2.1[k]).2.2.2.2.2.2.2.2.2.2.2.2.2.2.2.2.2.2.1<(w.2.1[j]).2.2.2.2.2.2.2.2.2.2.2.2.2.2.2.2.2.2.1)
     ·exact .inr ⟨_,rfl,ss,rfl,g⟩
     ·exact .inr ⟨_,rfl,((k+1:Nat):Int),rfl,by omega,by omega⟩
    ·simp only [cond_true]
     cases decide ((w.2.1[k]).2.2.2.2.2.2.2.2.2.2.2.2.2.2.2.2.2.2.1<(w.2.1[j]).2.2.2.2.2.2.2.2.2.2.2.2.2.2.2.2.2.2.1)
     ·exact .inr ⟨_,rfl,ss,rfl,g⟩
     ·exact .inr ⟨_,rfl,((k+1:Nat):Int),rfl,by omega,by omega⟩) ⟨id,rfl,wi⟩
 exact ⟨ss,hq,he⟩
theorem Qu (code:List (Int×Unit)) (a s:Int) {n:Nat} {w:me} (h:jM n w) {v id b:Int} (wi:1≤id∧id≤3) :
  ∃ss,(1≤ss∧ss≤3)∧aI jT (code,a,s,w.1,w.2.1,w.2.2.1,w.2.2.2.1,(0:Int),(0:Int),(0:Int),(0:Int),ByteArray.empty,v,id,b,(0:Int),ByteArray.empty,(0:Int),())=some (.inl (code,a,s,w.1,w.2.1,w.2.2.1,w.2.2.2.1,(0:Int),(0:Int),(0:Int),(0:Int),ByteArray.empty,v,ss,b,(0:Int),ByteArray.empty,())):=by
 have h5:=h.Ad;obtain ⟨e,he,ss,rfl,hq⟩:=dA (round:=jT) (x:=(code,a,s,w.1,w.2.1,w.2.2.1,w.2.2.2.1,(0:Int),(0:Int),(0:Int),(0:Int),ByteArray.empty,v,id,b,(0:Int),ByteArray.empty,((0:Nat):Int),())) 3
  (fun k x=>∃ss,x=(code,a,s,w.1,w.2.1,w.2.2.1,w.2.2.2.1,(0:Int),(0:Int),(0:Int),(0:Int),ByteArray.empty,v,ss,b,(0:Int),ByteArray.empty,((k:Nat):Int),())∧1≤ss∧ss≤3)
  (fun e=>∃ss,e=.inl (code,a,s,w.1,w.2.1,w.2.2.1,w.2.2.2.1,(0:Int),(0:Int),(0:Int),(0:Int),ByteArray.empty,v,ss,b,(0:Int),ByteArray.empty,())∧1≤ss∧ss≤3) (by
   rintro x ⟨ss,rfl,g⟩
   exact ⟨_,by simp only [jT,ba,sV,aq (show ¬((3:Nat):Int)<3 by omega),cond_false],ss,rfl,g⟩) (by
   rintro k x hk ⟨ss,rfl,g⟩
   have hk5:k<w.2.1.length:=by omega
   have Wm:IntKind.i64.wrap (((k:Nat):Int)+1)=((k+1:Nat):Int):=aN (show k<4611686018427387904 by omega);simp only [jT,ba,sV,ak (show ((k:Nat):Int)<3 by omega),cond_true,ax,aF,List.getElem?_eq_getElem hk5,Option.bind_some,Wm]
   cases (w.2.1[k]).2.1
   ·exact .inr ⟨_,rfl,ss,rfl,g⟩
   ·exact .inr ⟨_,rfl,((k+1:Nat):Int),rfl,by omega,by omega⟩) ⟨id,rfl,wi⟩
 exact ⟨ss,hq,he⟩
theorem Ej (code:List (Int×Unit)) {n:Nat} {w:me} (h:jM n w) (hn:n≤98) {v id b:Int} (hv:1≤v∧v≤9) (wi:1≤id∧id≤3) (hb:0≤b) (a s:Int) (d:ck code a) :
  ∃(e:Gm) (a' s':Int),iJ code a s w.1 w.2.1 w.2.2.1 w.2.2.2.1 0 0 0 0 ByteArray.empty v id b 0 ByteArray.empty=some (e.1,e.2.1,e.2.2.1,e.2.2.2.1,e.2.2.2.2.1,code,a',s',w.1,w.2.1,w.2.2.1,w.2.2.2.1,())∧Fo e∧ck code a':=by
 unfold iJ;delta aA bA
 by_cases k1:v=1
 ·obtain ⟨l,a1,s1,e1,l0,l1,d1⟩:=dL code a s 2 d (by omega);obtain ⟨t,a2,s2,e2,ht,d2⟩:=Og code a1 s1 [((ByteArray.mk #[112]),()),((ByteArray.mk #[113]),()),((ByteArray.mk #[114]),()),((ByteArray.mk #[115]),()),((ByteArray.mk #[116]),())] d1 (by decide);have hts:ByteArray.size t≤60:=by
   simp only [List.mem_cons,Prod.mk.injEq,and_true,List.not_mem_nil,or_false] at ht;rcases ht with rfl | rfl | rfl | rfl | rfl<;>decide
  refine ⟨(v,id,b,1+l,t,()),a2,s2,?_,⟨hv,⟨wi.1,by show id≤5;omega⟩,hb,fun _=>⟨by show 1≤1+l∧1+l≤2;omega,hts⟩,fun h1=>absurd k1 h1⟩,d2⟩;simp only [ak k1,cond_true,e1,e2,Option.bind_some];rw [dH (show -9223372036854775808≤1+l by omega) (by omega)]
 have done:∀ss b':Int,(1≤ss∧ss≤3)→0≤b'→Fo (v,ss,b',0,ByteArray.empty,()):=fun ss b' h1 h2=>⟨hv,⟨h1.1,by show ss≤5;omega⟩,h2,fun g=>absurd g k1,fun _=>⟨rfl,rfl⟩⟩
 by_cases k2:v=2
 ·obtain ⟨ss,hi,e1⟩:=IL code a s h hn (b:=b) (.inl k2) wi;refine ⟨(v,ss,b,0,ByteArray.empty,()),a,s,?_,done ss b hi hb,d⟩;simp only [aq k1,ak k2,cond_true,cond_false,e1,bW,Option.bind_some]
 by_cases k7:v=7
 ·obtain ⟨ss,hi,e1⟩:=IL code a s h hn (b:=b) (.inr k7) wi;refine ⟨(v,ss,b,0,ByteArray.empty,()),a,s,?_,done ss b hi hb,d⟩;simp only [aq k1,aq k2,ak k7,cond_true,cond_false,e1,bW,Option.bind_some]
 by_cases k3:v=3
 ·obtain ⟨o,a1,s1,e1,d1⟩:=qP code a s 2 d (by omega);simp only [aq k1,aq k2,aq k7,ak k3,cond_true,cond_false,e1,Option.bind_some]
  cases o
  ·exact ⟨(v,id,b,0,ByteArray.empty,()),a1,s1,rfl,done id b wi hb,d1⟩
  ·exact ⟨(v,id,0,0,ByteArray.empty,()),a1,s1,rfl,done id 0 wi (Int.le_refl _),d1⟩
 by_cases k9:v=9
 ·obtain ⟨ss,hi,e1⟩:=Qu code a s h (v:=v) (b:=b) wi;refine ⟨(v,ss,b,0,ByteArray.empty,()),a,s,?_,done ss b hi hb,d⟩;simp only [aq k1,aq k2,aq k7,aq k3,ak k9,cond_true,cond_false,e1,bW,Option.bind_some]
 ·refine ⟨(v,id,b,0,ByteArray.empty,()),a,s,?_,done id b wi hb,d⟩;simp only [aq k1,aq k2,aq k7,aq k3,aq k9,cond_false]
theorem IM (code:List (Int×Unit)) {n:Nat} {w:me} (h:jM n w) (hn:n≤98) {v id b:Int} (hv:1≤v∧v≤9) (wi:1≤id∧id≤3) (hb:0≤b) (a s:Int) (d:ck code a) :
  ∃(e:Gm) (a' s':Int),jU code a s w.1 w.2.1 w.2.2.1 w.2.2.2.1 0 0 0 0 ByteArray.empty v id b 0 ByteArray.empty=some (e.1,e.2.1,e.2.2.1,e.2.2.2.1,e.2.2.2.2.1,code,a',s',w.1,w.2.1,w.2.2.1,w.2.2.2.1,())∧Fo e∧ck code a':=by
 unfold jU
 cases decide (v=7)
 ·exact Ej code h hn hv wi hb a s d
 cases decide ((0:Int)<((List.length w.2.2.1:Nat):Int))
 ·exact Ej code h hn hv wi hb a s d
 ·obtain ⟨o,a1,s1,e1,d1⟩:=qP code a s 3 d (by omega);simp only [cond_true,e1,Option.bind_some]
  cases o
  ·simp only [Bool.not_false,cond_true];exact Ej code h hn (by omega) wi hb a1 s1 d1
  ·simp only [Bool.not_true,cond_false];exact Ej code h hn hv wi hb a1 s1 d1
theorem IN (code:List (Int×Unit)) {n:Nat} {w:me} (h:jM n w) (hn:n≤98) {v id b:Int} (hv:1≤v∧v≤9) (wi:1≤id∧id≤3) (hb:0≤b) (a s:Int) (d:ck code a) :
  ∃(e:Gm) (a' s':Int),jV code a s w.1 w.2.1 w.2.2.1 w.2.2.2.1 0 0 0 0 ByteArray.empty v id b 0 ByteArray.empty=some (e.1,e.2.1,e.2.2.1,e.2.2.2.1,e.2.2.2.2.1,code,a',s',w.1,w.2.1,w.2.2.1,w.2.2.2.1,())∧Fo e∧ck code a':=by
 unfold jV
 cases decide (((List.length w.2.2.1:Nat):Int)=0)
 ·exact IM code h hn hv wi hb a s d
 ·simp only [cond_true,mv,Option.bind_some]
  cases (decide (3≤v)&&decide (v≤5))
  ·exact IM code h hn hv wi hb a s d
  ·obtain ⟨v2,a1,s1,e1,Oy,d1⟩:=zG code a s [((2:Int),()),(6,()),(7,())] d (by decide);simp only [cond_true,e1,Option.bind_some];refine IM code h hn ?_ wi hb a1 s1 d1;simp only [List.mem_cons,Prod.mk.injEq,and_true,List.not_mem_nil,or_false] at Oy;omega
theorem Xe (code:List (Int×Unit)) (a s:Int) (d:ck code a) {n:Nat} {w:me} (h:jM n w) (hn:n≤98) :
  ∃(e:Gm) (a' s':Int),tZ code a s w.1 w.2.1 w.2.2.1 w.2.2.2.1=some (e.1,e.2.1,e.2.2.1,e.2.2.2.1,e.2.2.2.2.1,code,a',s',w.1,w.2.1,w.2.2.1,w.2.2.2.1,())∧Fo e∧ck code a':=by
 obtain ⟨v,a1,s1,e1,hv,d1⟩:=zG code a s [((1:Int),()),(1,()),(1,()),(2,()),(3,()),(3,()),(3,()),(3,()),(3,()),(3,()),(3,()),(3,()),(3,()),(4,()),(5,()),(6,()),(7,()),(7,()),(8,()),(9,())] d (by decide);obtain ⟨i,a2,s2,e2,i0,i1,d2⟩:=dL code a1 s1 3 d1 (by omega);obtain ⟨b,a3,s3,e3,b0,b1,d3⟩:=dL code a2 s2 30 d2 (by omega);have hv:=Y1 hv;have hi:IntKind.i64.wrap (1+i)=1+i:=dH (by omega) (by omega);unfold tZ;simp only [e1,e2,e3,Option.bind_some,hi]
 cases decide (v=8)
 ·exact IN code h hn hv (by omega) b0 a3 s3 d3
 ·obtain ⟨o,a4,s4,e4,d4⟩:=qP code a3 s3 4 d3 (by omega);simp only [cond_true,e4,Option.bind_some]
  cases o
  ·simp only [Bool.not_false,cond_true];exact IN code h hn (by omega) (by omega) b0 a4 s4 d4
  ·simp only [Bool.not_true,cond_false];exact IN code h hn hv (by omega) b0 a4 s4 d4
end Go.TM
set_option linter.unusedSimpArgs false
set_option linter.unusedVariables false
namespace Go.TM
open Go
theorem K7 {c:Int} {ms:eA} (h:IG c ms):oR c ms:=⟨⟨h.yJ,h.oZ⟩,⟨h.some_,h.len⟩,fun k hk _=>⟨by have:=h.rising.2.1 k hk;omega,fun h0=>h.rising.2.2 (k-1) k (by omega) hk (by omega)⟩⟩
theorem Xf (code:List (Int×Unit)) (h:code.length≤1048576):∃n:Nat,tY code=some (((n:Nat):Int),())∧n≤89:=by
 have e:Int.tdiv ((List.length code:Nat):Int) 4=((code.length / 4:Nat):Int):=rfl;unfold tY;rw [e,dH (show -9223372036854775808≤((code.length / 4:Nat):Int) by omega) (by omega),dH (show -9223372036854775808≤24+((code.length / 4:Nat):Int) by omega) (by omega)]
 by_cases g:89<24+code.length / 4
 ·rw [ak (show (89:Int)<24+((code.length / 4:Nat):Int) by omega)];exact ⟨89,rfl,Nat.le_refl _⟩
 ·rw [aq (show ¬(89:Int)<24+((code.length / 4:Nat):Int) by omega)];exact ⟨24+code.length / 4,rfl,by omega⟩
theorem Oo {rs:Oj} (h:IH rs):tX rs=some (true,()):=by
 have hf:=h.Gx;have hs:=h.some_;have l1:=ca (round:=jS) (e:=.inl (rs,())) rs.length (fun k=>(rs,((k:Nat):Int),())) (by
  simp only [jS,sS,aM,cond_false]) (fun k hk=>by
  obtain ⟨e1,e2,_⟩:=h.each k hk;have hr:=K7 e2;have hl:(rs[k]).2.1.length≤1048576:=by have:=hr.2.1.2;omega
  have r1:=(uB (rs[k]).1 (rs[k]).2.1 hl).1;rw [(uB (rs[k]).1 (rs[k]).2.1 hl).2.2.2 hr] at r1;simp only [jS,sS,aD hk,ax,cond_true,aF,List.getElem?_eq_getElem hk,Option.bind_some,r1,Bool.not_true,cond_false,aN (show k<4611686018427387904 by omega),ak e1])
 have l1:aI jS (rs,(0:Int),())=_:=l1;unfold tX;simp only [l1,bW,Option.bind_some,mv,ak (show (1:Int)≤((List.length rs:Nat):Int) by omega),ak (show ((List.length rs:Nat):Int)≤9 by omega),Bool.and_self]
theorem Xg {rs:Oj} (h:∀r∈rs,oR r.1 r.2.1) (hl:rs.length≤9):rs.length+wl Bc rs≤1048576:=by
 have:=Ir Bc 5 rs (fun r hr=>by
  have h1:=(h r hr).2.1.2;have e:Bc r=r.2.1.length+wl jK r.2.1:=rfl;have e2:wl jK r.2.1=0:=mW jK (fun _=>rfl) _;omega)
 omega
def cV (rs:Oj):me:=(rs,n8 5,[],[],())
theorem Xh (k:Nat) (hk:k<5):xR (CR (((k:Nat):Int)+1)):=
 {
  id:=⟨by show (1:Int)≤((k:Nat):Int)+1;omega,by show ((k:Nat):Int)+1≤5;omega⟩
  xS:=⟨Int.le_refl _,show (0:Int)≤9 by decide⟩
  dead:=fun e=>by cases e
  tI:=.inl ⟨rfl,rfl,rfl,rfl,rfl,rfl,rfl,rfl,rfl,rfl,rfl,rfl,rfl,rfl,rfl,rfl⟩
  old:=⟨rfl,Int.le_refl _⟩
  nH:=.inl ⟨rfl,rfl,rfl⟩ }
theorem Xi (k:Nat) (hk:k<(n8 5).length):lD 0 (n8 5)[k]∧((n8 5)[k]).1=((k+1:Nat):Int):=by
 have hk0:k<((List.range 5).map fun i:Nat=>CR ((i:Int)+1)).length:=hk;have e:(n8 5)[k]=CR (((k:Nat):Int)+1):=by
  show ((List.range 5).map fun i:Nat=>CR ((i:Int)+1))[k]=_;rw [List.getElem_map,List.getElem_range]
 have hk5:k<5:=by have:=Bj 5;omega
 have key:∀x:bZ,x=CR (((k:Nat):Int)+1)→lD 0 x∧x.1=((k+1:Nat):Int):=fun x hx=>by
  subst hx;exact ⟨⟨Xh k hk5,Nat.zero_le _,Nat.zero_le _,fun e he=>by cases he⟩,by show ((k:Nat):Int)+1=_;omega⟩
 exact key _ e
theorem CT {rs:Oj} (h:IH rs):jM 0 (cV rs):=
 {
  rings:=⟨fun r hr=>by
   obtain ⟨k,hk,rfl⟩:=List.mem_iff_getElem.1 hr;exact K7 (h.each k hk).2.1,by show rs.length≤9;have:=h.Gx;omega⟩
  Ad:=Bj 5
  F6:=Xi
  lets:=fun x hx=>by cases hx
  Gx:=by show 0≤_;omega
  num:=Nat.zero_le _
  nums:=fun e he=>by cases he }
theorem Ek {rs:Oj} (h:IH rs):oJ rs=some ((cV rs).1,(cV rs).2.1,(cV rs).2.2.1,(cV rs).2.2.2.1,true,()):=by
 have hq:=CT h;have hw:rs.length+wl Bc rs≤1048576:=Xg hq.rings.1 hq.rings.2;unfold oJ;delta aA;simp only [Oo h,Bi rs hw,Option.bind_some,Bool.not_true,cond_false,TH rs,bW];rfl
theorem TR {n:Nat} {w:me} (h:jM n w) (hn:n≤99):l7 w.1 w.2.1 w.2.2.1 w.2.2.2.1=some (w.1,w.2.1,w.2.2.1,w.2.2.2.1,()):=by
 have hf:=h.Gx;have h5:=h.Ad;have arG:=h.num;have c1:=Bi w.1 (Xg h.rings.1 h.rings.2);have l2:=ca (round:=fu) (e:=.inl (w.2.2.1,())) w.2.2.1.length (fun k=>(w.2.2.1,w.2.2.1.take k,((k:Nat):Int),())) (by
  simp only [fu,l6,aw,aP,aA,bA,aM,cond_false,List.take_length]) (fun k hk=>by
  have hx:=h.lets _ (List.getElem_mem hk);have e1:=(l9 (w.2.2.1[k]).2.2.2.2.2.2.2.1 (w.2.2.1[k]).2.2.2.2.2.2.2.2.1 (w.2.2.1[k]).2.2.2.2.2.2.2.2.2.1 (w.2.2.1[k]).2.2.2.2.2.2.2.2.2.2.1 (w.2.2.1[k]).2.2.2.2.2.2.2.2.2.2.2.1 (w.2.2.1[k]).2.2.2.2.2.2.2.2.2.2.2.2.1 (Nat.le_trans hx.N8 (by decide))).1;have e2:=(kO ((w.2.2.1[k]).2.2.2.2.2.2.2.2.2.2.2.2.2.1,(w.2.2.1[k]).2.2.2.2.2.2.2.2.2.2.2.2.2.2.1,(w.2.2.1[k]).2.2.2.2.2.2.2.2.2.2.2.2.2.2.2.1,(w.2.2.1[k]).2.2.2.2.2.2.2.2.2.2.2.2.2.2.2.2.1,()) (Nat.le_trans hx.bun (by decide))).1;simp only [fu,l6,aw,aP,aA,bA,aD hk,ax,cond_true,aF,List.getElem?_eq_getElem hk,Option.bind_some,e1];rw [e2];simp only [Option.bind_some,List.length_take,aT (show (min k w.2.2.1.length+1)*176≤lim by unfold lim;omega),cond_true,aN (show k<4611686018427387904 by omega)];rw [List.take_succ_eq_append_getElem hk])
 have l2:aI fu (w.2.2.1,[],(0:Int),())=_:=l2;have c2:fB w.2.2.1=some (w.2.2.1,()):=by
  unfold fB;rw [l2];rfl
 have hev:=Ir bu 70 w.2.2.2.1 (fun e he=>by
  obtain ⟨e1,e2,e3⟩:=h.nums e he;have e4:bu e=(e.2.2.1.length+wl jK e.2.2.1)+ByteArray.size e.2.2.2.2.2.2.1+(e.2.2.2.2.2.2.2.1.length+wl jK e.2.2.2.2.2.2.2.1):=rfl;have e5:wl jK e.2.2.1=0:=mW jK (fun _=>rfl) _;have e6:wl jK e.2.2.2.2.2.2.2.1=0:=mW jK (fun _=>rfl) _;omega)
 have c3:=pb w.2.2.2.1 (by omega);have l4:=ca (round:=iO) (e:=.inl ([],[],[],[],w.1,w.2.1,w.2.2.1,w.2.2.2.1,())) w.2.1.length (fun k=>(w.1,w.2.1,w.2.2.1,w.2.2.2.1,[],[],[],[],w.1,w.2.1.take k,w.2.2.1,w.2.2.2.1,((k:Nat):Int),())) (by
  simp only [iO,gw,tn,az,bD,aM,cond_false,List.take_length]) (fun k hk=>by
  have e1:=(uE w.2.1[k] ((h.F6 k hk).1.small (by omega))).1;simp only [iO,gw,tn,az,bD,aD hk,ax,cond_true,aF,List.getElem?_eq_getElem hk,Option.bind_some];rw [e1];simp only [Option.bind_some,List.length_take,aT (show (min k w.2.1.length+1)*320≤lim by unfold lim;omega),cond_true,aN (show k<4611686018427387904 by omega)];rw [List.take_succ_eq_append_getElem hk])
 have l4:aI iO (w.1,w.2.1,w.2.2.1,w.2.2.2.1,[],[],[],[],w.1,[],w.2.2.1,w.2.2.2.1,(0:Int),())=_:=l4;unfold l7;simp only [c1,c2,c3,Option.bind_some,l4,bW]
theorem Qv {e:Gm} (h:Fo e):wH e.1 e.2.1 e.2.2.1 e.2.2.2.1 e.2.2.2.2.1=some (true,()):=by
 unfold wH;simp only [mv,ak h.kind.1,ak h.kind.2,ak h.id.1,ak h.id.2,Bool.and_self,Option.bind_some,Bool.not_true,cond_false,aq (show ¬e.2.2.1<0 by have:=h.at_;omega)]
 by_cases h1:e.1=1
 ·obtain ⟨⟨a1,a2⟩,a3⟩:=h.say h1;simp only [ak h1,ak a1,ak a2,Bool.and_self,cond_true,ak (show ((ByteArray.size e.2.2.2.2.1:Nat):Int)≤60 by omega)]
 ·obtain ⟨a1,a2⟩:=h.no h1;simp only [aq h1,ak a1,a2,cond_true,cond_false];show some (uU ByteArray.empty ByteArray.empty,())=_;rw [Hu]
theorem Xj (code:List (Int×Unit)) (a s:Int) (d:ck code a) (hc:code.length≤1048576):∃(rs:Oj) (ds:List Gm) (a' s':Int),uq code a s code=some (rs,ds,code,a',s',())∧IH rs∧ds.length≤89∧(∀e∈ds,Fo e)∧ck code a':=by
 obtain ⟨rs,a1,s1,e1,hv,d1⟩:=Mm code a s d;obtain ⟨n,e2,hn⟩:=Xf code hc;obtain ⟨e,he,a',s',ds,rfl,q1,q2,d'⟩:=dA (round:=j6) (x:=(code,a1,s1,code,[],[],rs,[],(cV rs).1,(cV rs).2.1,(cV rs).2.2.1,(cV rs).2.2.2.1,((0:Nat):Int),())) n
  (fun k x=>∃(a s:Int) (ds:List Gm) (w:me),x=(code,a,s,code,[],[],rs,ds,w.1,w.2.1,w.2.2.1,w.2.2.2.1,((k:Nat):Int),())∧jM k w∧ds.length=k∧(∀e∈ds,Fo e)∧ck code a)
  (fun e=>∃(a s:Int) (ds:List Gm),e=.inl (code,a,s,[],[],rs,ds,())∧ds.length=n∧(∀e∈ds,Fo e)∧ck code a) (by
   rintro x ⟨a,s,ds,w,rfl,hw,q1,q2,d⟩
   exact ⟨_,by simp only [j6,gw,tl,aw,aA,e2,Option.bind_some,aM,cond_false],a,s,ds,rfl,q1,q2,d⟩) (by
   rintro k x hk ⟨a,s,ds,w,rfl,hw,q1,q2,d⟩
   obtain ⟨e,a1,s1,e3,he,d1⟩:=Xe code a s d hw (by omega);have hb:Nat.ble ((ds.length+1)*48) lim=true:=aT (by rw [q1];unfold lim;omega);have Wm:IntKind.i64.wrap (((k:Nat):Int)+1)=((k+1:Nat):Int):=aN (show k<4611686018427387904 by omega);simp only [j6,gw,tl,aw,aA,e2,Option.bind_some,aD hk,cond_true,e3]
   by_cases k3:k<3
   ·have hm:Fo (7,((k+1:Nat):Int),0,0,ByteArray.empty,()):=⟨⟨show (1:Int)≤7 by decide,show (7:Int)≤9 by decide⟩,⟨by show (1:Int)≤((k+1:Nat):Int);omega,by show ((k+1:Nat):Int)≤5;omega⟩,Int.le_refl _,fun h=>(by have h:(7:Int)=1:=h;omega),fun _=>⟨rfl,rfl⟩⟩;obtain ⟨b,w',e4,hw'⟩:=IK hw (by omega) hm;have e4:pt w.1 w.2.1 w.2.2.1 w.2.2.2.1 7 ((k+1:Nat):Int) 0 0 ByteArray.empty=_:=e4;simp only [ak (show ((k:Nat):Int)<3 by omega),cond_true,Wm,e4,Option.bind_some,hb];refine .inr ⟨_,rfl,a1,s1,ds++[(7,((k+1:Nat):Int),0,0,ByteArray.empty,())],w',rfl,hw',by rw [List.length_append,q1];rfl,fun x hx => ?_,d1⟩;rcases List.mem_append.1 hx with hx | hx
    ·exact q2 x hx
    ·rw [List.mem_singleton] at hx;subst hx;exact hm
   ·obtain ⟨b,w',e4,hw'⟩:=IK hw (by omega) he;simp only [aq (show ¬((k:Nat):Int)<3 by omega),cond_false,Wm,e4,Option.bind_some,hb,cond_true];refine .inr ⟨_,rfl,a1,s1,ds++[e],w',rfl,hw',by rw [List.length_append,q1];rfl,fun x hx => ?_,d1⟩;rcases List.mem_append.1 hx with hx | hx
    ·exact q2 x hx
    ·rw [List.mem_singleton] at hx;subst hx;exact he) ⟨a1,s1,[],_,rfl,CT hv,rfl,fun e he=>(by cases he),d1⟩
 have he:aI j6 (code,a1,s1,code,[],[],rs,[],(cV rs).1,(cV rs).2.1,(cV rs).2.2.1,(cV rs).2.2.2.1,(0:Int),())=_:=he;refine ⟨rs,ds,a',s',?_,hv,by omega,q2,d'⟩;unfold uq;delta aA;simp only [e1,Option.bind_some,Ek hv,he,bW]
theorem Y2 {rs:Oj} (hv:IH rs) (ds:List Gm) (hl:ds.length≤89) (he:∀e∈ds,Fo e):∃(w:me) (wP:eA),sj rs ds=some (w.1,w.2.1,w.2.2.1,w.2.2.2.1,wP,true,())∧jM ds.length w:=by
 have l1:=ca (round:=jq) (e:=.inl (ds,[],[],[],[],(cV rs).1,(cV rs).2.1,(cV rs).2.2.1,(cV rs).2.2.2.1,true,())) ds.length (fun k=>(ds,[],[],[],[],(cV rs).1,(cV rs).2.1,(cV rs).2.2.1,(cV rs).2.2.2.1,true,((k:Nat):Int),())) (by
  simp only [jq,bC,rH,aw,aM,cond_false]) (fun k hk=>by
  simp only [jq,bC,rH,aw,aD hk,cond_true,ak (show ((List.length ds:Nat):Int)≤90 by omega),ax,aF,List.getElem?_eq_getElem hk,Option.bind_some,Qv (he _ (List.getElem_mem hk)),aN (show k<4611686018427387904 by omega)])
 have l1:aI jq (ds,[],[],[],[],(cV rs).1,(cV rs).2.1,(cV rs).2.2.1,(cV rs).2.2.2.1,true,(0:Int),())=_:=l1;obtain ⟨e,l2,w,wP,rfl,hw⟩:=dA (round:=jr) (x:=(ds,[],[],[],[],(cV rs).1,(cV rs).2.1,(cV rs).2.2.1,(cV rs).2.2.2.1,[],((0:Nat):Int),())) ds.length
  (fun k x=>∃(w:me) (wP:eA),x=(ds,[],[],[],[],w.1,w.2.1,w.2.2.1,w.2.2.2.1,wP,((k:Nat):Int),())∧jM k w∧wP.length=k)
  (fun e=>∃(w:me) (wP:eA),e=.inl ([],[],[],[],w.1,w.2.1,w.2.2.1,w.2.2.2.1,wP,())∧jM ds.length w) (by
   rintro x ⟨w,wP,rfl,hw,q⟩
   exact ⟨_,by simp only [jr,bC,rJ,aw,aA,aM,cond_false],w,wP,rfl,hw⟩) (by
   rintro k x hk ⟨w,wP,rfl,hw,q⟩
   obtain ⟨b,w',e1,hw'⟩:=IK hw (by omega) (he _ (List.getElem_mem hk));refine .inr ⟨(ds,[],[],[],[],w'.1,w'.2.1,w'.2.2.1,w'.2.2.2.1,wP++[(b,())],((k+1:Nat):Int),()),?_,w',_,rfl,hw',by rw [List.length_append,q];rfl⟩;simp only [jr,bC,rJ,aw,aA,aD hk,cond_true,ax,aF,List.getElem?_eq_getElem hk,Option.bind_some,e1,aT (show (wP.length+1)*8≤lim by rw [q];unfold lim;omega),aN (show k<4611686018427387904 by omega)]) ⟨_,[],rfl,CT hv,rfl⟩
 have l2:aI jr (ds,[],[],[],[],(cV rs).1,(cV rs).2.1,(cV rs).2.2.1,(cV rs).2.2.2.1,[],(0:Int),())=_:=l2;refine ⟨w,wP,?_,hw⟩;unfold sj;delta aw aA ev;simp only [Ek hv,Option.bind_some,l1,bW,Bool.not_true,cond_false,l2,TR hw (by omega)]
theorem TS (code:List (Int×Unit)) (a s:Int) (d:ck code a) (hc:code.length≤1048576):∃(w:me) (a' s':Int) (n:Nat),oM code a s code=some (w.1,w.2.1,w.2.2.1,w.2.2.2.1,code,a',s',())∧jM n w∧n≤89∧ck code a':=by
 obtain ⟨rs,ds,a',s',e1,hv,hl,he,d'⟩:=Xj code a s d hc;obtain ⟨w,wP,e2,hw⟩:=Y2 hv ds hl he;refine ⟨w,a',s',ds.length,?_,hw,hl,d'⟩;unfold oM;delta aA;simp only [e1,Option.bind_some,e2]
end Go.TM
set_option linter.unusedSimpArgs false
set_option linter.unusedVariables false
namespace Go.TM
open Go
def Oq {B:Type} (code:List (Int×Unit)) (c0 c1 c2 c3 c4:Int):Sum (List (Int×Unit)×Int×Int×Int×Int×Int×Int×Int×(List (Int×Unit))×Int×Int×Int×Int×Int×(List (Int×Unit))×Unit) B→Prop
 |.inl y=>y.1=code∧ck code y.2.1∧y.2.2.2.2.2.2.2.2.2=(c0,c1,c2,c3,c4,y.2.2.2.2.2.2.2.2.2.2.2.2.2.2.1,())∧y.2.2.2.2.2.2.2.2.2.2.2.2.2.2.1.length≤12
 |.inr _=>False
theorem Xk (code:List (Int×Unit)) (at_ jP c0 c1 c2 c3 c4:Int) (h:ck code at_) (h0:0≤c2) (h1:c2<12) :
  ∃e,aI fv (code,at_,jP,(0:Int),(0:Int),(0:Int),(0:Int),(0:Int),[],c0,c1,c2,c3,c4,[],(1:Int),())=some e∧Oq code c0 c1 c2 c3 c4 e:=by
 obtain ⟨m,rfl⟩:=Int.eq_ofNat_of_zero_le h0;refine dA (round:=fv) m (fun k x=>∃wo s' l,x=(code,wo,s',(0:Int),(0:Int),(0:Int),(0:Int),(0:Int),[],c0,c1,((m:Nat):Int),c3,c4,l,((k+1:Nat):Int),())∧ck code wo∧l.length≤k) (Oq code c0 c1 ((m:Nat):Int) c3 c4) ?_ ?_ ⟨at_,jP,[],rfl,h,Nat.le_refl _⟩
 ·rintro x ⟨wo,s',l,rfl,hd,hl⟩
  refine ⟨.inl (code,wo,s',(0:Int),(0:Int),(0:Int),(0:Int),(0:Int),[],c0,c1,((m:Nat):Int),c3,c4,l,()),?_,rfl,hd,rfl,(by show l.length≤12;omega)⟩;simp only [fv,ba,rK,aq (show ¬((m+1:Nat):Int)≤((m:Nat):Int) by omega),cond_false]
 ·rintro k x hk ⟨wo,s',l,rfl,hd,hl⟩
  obtain ⟨b,a1,s1,e1,d1⟩:=qP code wo s' 5 hd (by omega);simp only [fv,ba,rK,ak (show ((k+1:Nat):Int)≤((m:Nat):Int) by omega),cond_true,e1,Option.bind_some,aN (show k+1<4611686018427387904 by omega)]
  cases b
  ·exact .inr ⟨_,rfl,a1,s1,l,rfl,d1,by omega⟩
  ·rw [aT (show (l.length+1)*8≤lim by unfold lim;omega)];exact .inr ⟨_,rfl,a1,s1,l++[(((k+1:Nat):Int),())],rfl,d1,by simp;omega⟩
def Ot (code:List (Int×Unit)) (o:Option (Int×Int×Int×Int×Int×(List (Int×Unit))×(List (Int×Unit))×Int×Int×Unit)) (n:Nat):Prop:=
 ∃t0 t1 t2 t3 t4 xs wo s',o=some (t0,t1,t2,t3,t4,xs,code,wo,s',())∧ck code wo∧xs.length≤n
theorem Qw (code:List (Int×Unit)) (at_ jP:Int) (h:ck code at_):Ot code (oN code at_ jP) 12:=by
 obtain ⟨v1,a1,s1,e1,p1,q1,d1⟩:=dL code at_ jP 3 h (by omega);obtain ⟨v2,a2,s2,e2,p2,q2,d2⟩:=dL code a1 s1 9 d1 (by omega);obtain ⟨v3,a3,s3,e3,p3,q3,d3⟩:=dL code a2 s2 12 d2 (by omega);obtain ⟨v4,a4,s4,e4,p4,q4,d4⟩:=dL code a3 s3 (v3+1) d3 (by omega);unfold oN;delta bA;simp only [e1,e2,e3,Option.bind_some,dH (show -9223372036854775808≤v3+1 by omega) (show v3+1<9223372036854775808 by omega),e4,dH (show -9223372036854775808≤1+v1 by omega) (show 1+v1<9223372036854775808 by omega),dH (show -9223372036854775808≤1+v2 by omega) (show 1+v2<9223372036854775808 by omega)];have done:∀(c4 a s:Int),ck code a→Ot code (bW (aI fv (code,a,s,(0:Int),(0:Int),(0:Int),(0:Int),(0:Int),[],1+v1,1+v2,v3,v4,c4,[],(1:Int),())) (fun y6=>
   some (y6.2.2.2.2.2.2.2.2.2.1,y6.2.2.2.2.2.2.2.2.2.2.1,y6.2.2.2.2.2.2.2.2.2.2.2.1,y6.2.2.2.2.2.2.2.2.2.2.2.2.1,y6.2.2.2.2.2.2.2.2.2.2.2.2.2.1,y6.2.2.2.2.2.2.2.2.2.2.2.2.2.2.1,y6.1,y6.2.1,y6.2.2.1,())) (fun y7=>
   none)) 12:=by
  intro c4 a s hd;obtain ⟨e,he,hq⟩:=Xk code a s (1+v1) (1+v2) v3 v4 c4 hd p3 q3;rw [he]
  cases e with
  |inr e=>exact hq.elim
  |inl e=>
   obtain ⟨k1,k2,k3,k4⟩:=hq;obtain ⟨y1,y2,y3,y4,y5,y6,y7,y8,y9,wj⟩:=e;simp only at k1 k2 k3 k4;subst k1;exact ⟨_,_,_,_,_,_,_,_,rfl,k2,k4⟩
 cases decide (v4<v3)
 ·obtain ⟨b,a5,s5,e5,d5⟩:=qP code a4 s4 6 d4 (by omega);simp only [e5,Option.bind_some,cond_false]
  cases b
  ·exact done _ _ _ d5
  ·obtain ⟨v6,a6,s6,e6,p6,q6,d6⟩:=dL code a5 s5 3 d5 (by omega);simp only [e6,Option.bind_some,cond_true];exact done _ _ _ d6
 ·obtain ⟨v6,a6,s6,e6,p6,q6,d6⟩:=dL code a4 s4 3 d4 (by omega);simp only [e6,Option.bind_some,cond_true];exact done _ _ _ d6
end Go.TM
set_option linter.unusedSimpArgs false
set_option linter.unusedVariables false
namespace Go.TM
open Go
theorem TT (x:Int):∃y,qA x=some (y,()):=by
 unfold qA
 cases decide (x<(10:Int))
 ·exact ⟨_,rfl⟩
 ·exact ⟨_,rfl⟩
theorem Qx (n:Int) (h0:0<n) (h1:n<10):∃s,ur n=some (s,())∧ByteArray.size s≤1:=by
 have m1:Int.tmod n 10=n:=Int.tmod_eq_of_lt (by omega) h1;have m2:Int.tdiv n 10=0:=Int.tdiv_eq_zero_of_lt (by omega) h1;obtain ⟨y,hy⟩:=TT n;have oU:ByteArray.size (bytesOf [(y,())])=1:=DX [(y,())];have Qg:Nat.ble (ByteArray.size (bytesOf [(y,())])+0) lim=true:=by rw [oU];exact aT (by unfold lim;omega)
 have r1:j8 (n,decide (n<(0:Int)),(ByteArray.mk #[]),())=some (.inl ((0:Int),false,(bytesOf [(y,())])++(ByteArray.mk #[]),())):=by
  have e1:ByteArray.size (ByteArray.mk #[])=0:=rfl;simp only [j8,tu,aq (show ¬n=0 by omega),Bool.not_false,cond_true,m1,m2,aq (show ¬n<0 by omega),cond_false,hy,Option.bind_some,e1,Qg,dH (show -9223372036854775808≤(0:Int) by omega) (by omega)]
 have r2:j8 ((0:Int),false,(bytesOf [(y,())])++(ByteArray.mk #[]),())=some (.inr (.inl (false,(bytesOf [(y,())])++(ByteArray.mk #[]),()))):=by
  simp only [j8,tu,decide_true,Bool.not_true,cond_false]
 unfold ur;rw [aq (show ¬n=0 by omega),jz,r1];simp only [cond_false];rw [jz,r2];refine ⟨_,rfl,?_⟩;rw [ByteArray.size_append,oU]
 decide
def IP (l:aW):Prop:=l.length≤10∧∀x∈l,ByteArray.size x.2.2.2.1≤61
theorem IP.w {l:aW} (h:IP l):l.length+wl dD l≤620:=by
 have:=KU dD 61 l h.2;have:=h.1;omega
theorem IP.nil:IP []:=⟨Nat.zero_le _,fun x h=>by cases h⟩
theorem TU (code:List (Int×Unit)) (at_ jP:Int) (h:ck code at_) (c:Int) (xs:List (Int×Unit)) (d:Int) (hc:c≤10):∃b0 b1 b2 l wo s',nA code at_ jP c xs d=some (b0,b1,b2,l,code,wo,s',())∧IP l∧ck code wo:=by
 unfold nA;delta Q0 aA
 by_cases h1:1<c
 ·obtain ⟨b,a1,s1,e1,d1⟩:=qP code at_ jP 4 h (by omega);simp only [ak h1,cond_true,e1,Option.bind_some]
  cases b
  ·have hw:IntKind.i64.wrap (c-(1:Int))=c-1:=dH (by omega) (by omega);obtain ⟨v,a2,s2,e2,v0,v1,d2⟩:=dL code a1 s1 (c-1) d1 (by omega);simp only [Bool.not_false,cond_true,hw,e2,Option.bind_some];obtain ⟨e,he,hq⟩:=dA (round:=iD) (x:=(code,a2,s2,(0:Int),(0:Int),(0:Int),[],d,c,IntKind.i64.wrap ((1:Int)+v),[],[],((0+1:Nat):Int),())) 6
    (fun k x=>∃l:aW,x=(code,a2,s2,(0:Int),(0:Int),(0:Int),[],d,c,IntKind.i64.wrap ((1:Int)+v),[],l,((k+1:Nat):Int),())∧l.length≤k∧∀x∈l,ByteArray.size x.2.2.2.1≤61)
    (fun e=>∃l:aW,e=.inl (code,a2,s2,(0:Int),(0:Int),(0:Int),[],d,c,IntKind.i64.wrap ((1:Int)+v),[],l,())∧l.length≤6∧∀x∈l,ByteArray.size x.2.2.2.1≤61) (by
     rintro x ⟨l,rfl,q1,q2⟩
     exact ⟨_,by simp only [iD,gw,qB,aq (show ¬((6+1:Nat):Int)≤6 by omega),cond_false],l,rfl,q1,q2⟩) (by
     rintro k x hk ⟨l,rfl,q1,q2⟩
     obtain ⟨t,e3,ht⟩:=Qx ((k+1:Nat):Int) (by omega) (by omega);refine .inr ⟨_,?_,l++[(((k+1:Nat):Int),IntKind.i64.wrap ((1:Int)+Int.tmod ((k+1:Nat):Int) 3),IntKind.i64.wrap ((1:Int)+Int.tmod ((k+1:Nat):Int) 2),t,())],rfl,by simp;omega,fun x hx => ?_⟩
     ·simp only [iD,gw,qB,ak (show ((k+1:Nat):Int)≤6 by omega),cond_true,e3,Option.bind_some,aT (show (l.length+1)*40≤lim by unfold lim;omega),aN (show k+1<4611686018427387904 by omega)]
     ·rcases List.mem_append.1 hx with hx | hx
      ·exact q2 x hx
      ·rw [List.mem_singleton] at hx;subst hx;show t.size≤61;omega) ⟨[],rfl,Nat.le_refl _,fun x hx=>by cases hx⟩
   have he:aI iD (code,a2,s2,(0:Int),(0:Int),(0:Int),[],d,c,IntKind.i64.wrap ((1:Int)+v),[],[],(1:Int),())=some e:=he;obtain ⟨l,rfl,l1,l2⟩:=hq;rw [he];simp only [kk];generalize IntKind.i64.wrap ((1:Int)+v)=old;obtain ⟨e,he,hq⟩:=dA (round:=gr) (x:=(code,a2,s2,(0:Int),(0:Int),(0:Int),[],d,c,old,[],l,((0:Nat):Int),())) l.length
    (fun k x=>∃(a s:Int) (m:aW),x=(code,a,s,(0:Int),(0:Int),(0:Int),[],d,c,old,m,l,((k:Nat):Int),())∧m.length≤k∧(∀x∈m,ByteArray.size x.2.2.2.1≤61)∧ck code a)
    (fun e=>∃(a s:Int) (m:aW),e=.inl (code,a,s,(0:Int),(0:Int),(0:Int),[],d,c,old,m,())∧IP m∧ck code a) (by
     rintro x ⟨a,s,m,rfl,q1,q2,q3⟩
     exact ⟨_,by simp only [gr,gw,m8,aA,aM,cond_false],a,s,m,rfl,⟨by omega,q2⟩,q3⟩) (by
     rintro k x hk ⟨a,s,m,rfl,q1,q2,q3⟩
     obtain ⟨b,a3,s3,e3,d3⟩:=qP code a s 3 q3 (by omega)
     cases b
     ·refine .inr ⟨_,?_,a3,s3,m++[l[k]],rfl,by simp;omega,fun x hx => ?_,d3⟩
      ·simp only [gr,gw,m8,aA,aD hk,cond_true,e3,Option.bind_some,Bool.not_false,ax,aF,fW hk,List.getElem?_eq_getElem hk,aT (show (m.length+1)*40≤lim by unfold lim;omega),aN (show k<4611686018427387904 by omega)]
      ·rcases List.mem_append.1 hx with hx | hx
       ·exact q2 x hx
       ·rw [List.mem_singleton] at hx;subst hx;exact l2 _ (List.getElem_mem hk)
     ·refine .inr ⟨_,?_,a3,s3,m,rfl,by omega,q2,d3⟩;simp only [gr,gw,m8,aA,aD hk,cond_true,e3,Option.bind_some,Bool.not_true,cond_false,aN (show k<4611686018427387904 by omega)]) ⟨a2,s2,[],rfl,Nat.le_refl _,(fun x hx=>by cases hx),d2⟩
   have he:aI gr (code,a2,s2,(0:Int),(0:Int),(0:Int),[],d,c,old,[],l,(0:Int),())=some e:=he;obtain ⟨a,s,m,rfl,m1,m2⟩:=hq;rw [he];exact ⟨_,_,_,_,_,_,rfl,m1,m2⟩
  ·exact ⟨_,_,_,_,_,_,rfl,IP.nil,d1⟩
 ·rw [aq h1];exact ⟨_,_,_,_,_,_,rfl,IP.nil,h⟩
theorem Mp (code:List (Int×Unit)) (at_ jP:Int) (h:ck code at_):∃b0 b1 b2 l wo s',fD code at_ jP=some (b0,b1,b2,l,code,wo,s',())∧IP l∧ck code wo:=by
 obtain ⟨c,xs,a1,s1,e1,r1,_,_,d1⟩:=Qo code at_ jP h;obtain ⟨v,a2,s2,e2,v0,v1,d2⟩:=dL code a1 s1 4 d1 (by omega);have h0:0<xs.length:=r1.some_;have hw:IntKind.i64.wrap ((1:Int)+v)=1+v:=dH (by omega) (by omega);obtain ⟨b0,b1,b2,l,a3,s3,e3,l3,d3⟩:=TU code a2 s2 d2 (1+v) xs xs[0].1 (by omega);obtain ⟨w,a4,s4,e4,_,_,d4⟩:=dL code a3 s3 20 d3 (by omega);unfold fD;delta aA;simp only [e1,e2,Option.bind_some,fW h0,cond_true,List.getElem?_eq_getElem h0,hw,e3,e4]
 cases decide (w=0)
 case true=>
  obtain ⟨x,a5,s5,e5,_,d5⟩:=zG code a4 s4 [((0:Int),()),((5:Int),()),((6:Int),())] d4 (by simp);simp only [e5,Option.bind_some,cond_true];exact ⟨_,_,_,_,_,_,rfl,l3,d5⟩
 cases decide (w=1)
 case true=>
  obtain ⟨x,a5,s5,e5,_,d5⟩:=zG code a4 s4 [((0:Int),()),((9:Int),()),((10:Int),())] d4 (by simp);simp only [e5,Option.bind_some,cond_true];exact ⟨_,_,_,_,_,_,rfl,l3,d5⟩
 cases decide (w=2)
 case true=>
  obtain ⟨x,a5,s5,e5,_,d5⟩:=zG code a4 s4 [((-1:Int),()),((0:Int),()),(b1,())] d4 (by simp);simp only [e5,Option.bind_some,cond_true];exact ⟨_,_,_,_,_,_,rfl,l3,d5⟩
 cases decide (w=3)
 case true=>
  obtain ⟨m,a5,s5,e5,m5,d5,hx⟩:=Oh code a4 s4 d4;simp only [e5,Option.bind_some,cond_true];exact ⟨_,_,_,_,_,_,rfl,⟨m5,hx⟩,d5⟩
 exact ⟨_,_,_,_,_,_,rfl,l3,d4⟩
def Ou (l:List ea) (n:Nat):Prop:=l.length≤n∧∀b∈l,IP b.2.2.2.1
theorem Ou.snoc {l:List ea} {n:Nat} (h:Ou l n) {b:ea} (hb:IP b.2.2.2.1):Ou (l++[b]) (n+1):=
 ⟨by have:=h.1;simp;omega,fun x hx=>by
  rcases List.mem_append.1 hx with hx | hx
  ·exact h.2 x hx
  ·rw [List.mem_singleton] at hx;subst hx;exact hb⟩
theorem Ou.up {l:List ea} {n m:Nat} (h:Ou l n) (hm:n≤m):Ou l m:=⟨Nat.le_trans h.1 hm,h.2⟩
theorem Ou.w {l:List ea} {n:Nat} (h:Ou l n):l.length+wl dX l≤621*n:=by
 have:=KU dX 620 l (fun b hb=>(h.2 b hb).w);have:=h.1;have:=Nat.mul_le_mul_left 620 this;omega
end Go.TM
