/- The world's life, as the reference plays it: every deed. -/
import Derived.Test.YtiljcjnnhkidbaaGreatNPWldL
set_option linter.unusedSimpArgs false
set_option linter.unusedVariables false
namespace Go.TM
open Go
def I8 (d:bY) (id:Int) (l:aU):aU:=l.filter fun x=>decide (x.2.1=id)
theorem O7 (d:bY) (id:Int) (l:aU):(I8 d id l).length≤l.length:=List.length_filter_le _ _
theorem YG (w:mj) (id:Int) (d:bY) (hl:(d.2.2.2.2.2.1).length≤1048576) :
  aJ jx (w.1,w.2.1,w.2.2.1,w.2.2.2.1,id,d.1,d.2.1,d.2.2.1,d.2.2.2.1,d.2.2.2.2.1,d.2.2.2.2.2.1,d.2.2.2.2.2.2.1,d.2.2.2.2.2.2.2.1,d.2.2.2.2.2.2.2.2.1,d.2.2.2.2.2.2.2.2.2.1,d.2.2.2.2.2.2.2.2.2.2.1,d.2.2.2.2.2.2.2.2.2.2.2.1,d.2.2.2.2.2.2.2.2.2.2.2.2.1,d.2.2.2.2.2.2.2.2.2.2.2.2.2.1,d.2.2.2.2.2.2.2.2.2.2.2.2.2.2.1,d.2.2.2.2.2.2.2.2.2.2.2.2.2.2.2.1,d.2.2.2.2.2.2.2.2.2.2.2.2.2.2.2.2.1,d.2.2.2.2.2.2.2.2.2.2.2.2.2.2.2.2.2.1,d.2.2.2.2.2.2.2.2.2.2.2.2.2.2.2.2.2.2.1,d.2.2.2.2.2.2.2.2.2.2.2.2.2.2.2.2.2.2.2.1,d.2.2.2.2.2.2.2.2.2.2.2.2.2.2.2.2.2.2.2.2.1,d.2.2.2.2.2.2.2.2.2.2.2.2.2.2.2.2.2.2.2.2.2.1,d.2.2.2.2.2.2.2.2.2.2.2.2.2.2.2.2.2.2.2.2.2.2.1,d.2.2.2.2.2.2.2.2.2.2.2.2.2.2.2.2.2.2.2.2.2.2.2.1,[],(0:Int),())=some (.inl (w.1,w.2.1,w.2.2.1,w.2.2.2.1,id,d.1,d.2.1,d.2.2.1,d.2.2.2.1,d.2.2.2.2.1,d.2.2.2.2.2.1,d.2.2.2.2.2.2.1,d.2.2.2.2.2.2.2.1,d.2.2.2.2.2.2.2.2.1,d.2.2.2.2.2.2.2.2.2.1,d.2.2.2.2.2.2.2.2.2.2.1,d.2.2.2.2.2.2.2.2.2.2.2.1,d.2.2.2.2.2.2.2.2.2.2.2.2.1,d.2.2.2.2.2.2.2.2.2.2.2.2.2.1,d.2.2.2.2.2.2.2.2.2.2.2.2.2.2.1,d.2.2.2.2.2.2.2.2.2.2.2.2.2.2.2.1,d.2.2.2.2.2.2.2.2.2.2.2.2.2.2.2.2.1,d.2.2.2.2.2.2.2.2.2.2.2.2.2.2.2.2.2.1,d.2.2.2.2.2.2.2.2.2.2.2.2.2.2.2.2.2.2.1,d.2.2.2.2.2.2.2.2.2.2.2.2.2.2.2.2.2.2.2.1,d.2.2.2.2.2.2.2.2.2.2.2.2.2.2.2.2.2.2.2.2.1,d.2.2.2.2.2.2.2.2.2.2.2.2.2.2.2.2.2.2.2.2.2.1,d.2.2.2.2.2.2.2.2.2.2.2.2.2.2.2.2.2.2.2.2.2.2.1,d.2.2.2.2.2.2.2.2.2.2.2.2.2.2.2.2.2.2.2.2.2.2.2.1,I8 d id d.2.2.2.2.2.1,())):=by
 have l1:=ck (round:=jx) (e:=.inl (w.1,w.2.1,w.2.2.1,w.2.2.2.1,id,d.1,d.2.1,d.2.2.1,d.2.2.2.1,d.2.2.2.2.1,d.2.2.2.2.2.1,d.2.2.2.2.2.2.1,d.2.2.2.2.2.2.2.1,d.2.2.2.2.2.2.2.2.1,d.2.2.2.2.2.2.2.2.2.1,d.2.2.2.2.2.2.2.2.2.2.1,d.2.2.2.2.2.2.2.2.2.2.2.1,d.2.2.2.2.2.2.2.2.2.2.2.2.1,d.2.2.2.2.2.2.2.2.2.2.2.2.2.1,d.2.2.2.2.2.2.2.2.2.2.2.2.2.2.1,d.2.2.2.2.2.2.2.2.2.2.2.2.2.2.2.1,d.2.2.2.2.2.2.2.2.2.2.2.2.2.2.2.2.1,d.2.2.2.2.2.2.2.2.2.2.2.2.2.2.2.2.2.1,d.2.2.2.2.2.2.2.2.2.2.2.2.2.2.2.2.2.2.1,d.2.2.2.2.2.2.2.2.2.2.2.2.2.2.2.2.2.2.2.1,d.2.2.2.2.2.2.2.2.2.2.2.2.2.2.2.2.2.2.2.2.1,d.2.2.2.2.2.2.2.2.2.2.2.2.2.2.2.2.2.2.2.2.2.1,d.2.2.2.2.2.2.2.2.2.2.2.2.2.2.2.2.2.2.2.2.2.2.1,d.2.2.2.2.2.2.2.2.2.2.2.2.2.2.2.2.2.2.2.2.2.2.2.1,I8 d id d.2.2.2.2.2.1,())) (d.2.2.2.2.2.1).length (fun k=>(w.1,w.2.1,w.2.2.1,w.2.2.2.1,id,d.1,d.2.1,d.2.2.1,d.2.2.2.1,d.2.2.2.2.1,d.2.2.2.2.2.1,d.2.2.2.2.2.2.1,d.2.2.2.2.2.2.2.1,d.2.2.2.2.2.2.2.2.1,d.2.2.2.2.2.2.2.2.2.1,d.2.2.2.2.2.2.2.2.2.2.1,d.2.2.2.2.2.2.2.2.2.2.2.1,d.2.2.2.2.2.2.2.2.2.2.2.2.1,d.2.2.2.2.2.2.2.2.2.2.2.2.2.1,d.2.2.2.2.2.2.2.2.2.2.2.2.2.2.1,d.2.2.2.2.2.2.2.2.2.2.2.2.2.2.2.1,d.2.2.2.2.2.2.2.2.2.2.2.2.2.2.2.2.1,d.2.2.2.2.2.2.2.2.2.2.2.2.2.2.2.2.2.1,d.2.2.2.2.2.2.2.2.2.2.2.2.2.2.2.2.2.2.1,d.2.2.2.2.2.2.2.2.2.2.2.2.2.2.2.2.2.2.2.1,d.2.2.2.2.2.2.2.2.2.2.2.2.2.2.2.2.2.2.2.2.1,d.2.2.2.2.2.2.2.2.2.2.2.2.2.2.2.2.2.2.2.2.2.1,d.2.2.2.2.2.2.2.2.2.2.2.2.2.2.2.2.2.2.2.2.2.2.1,d.2.2.2.2.2.2.2.2.2.2.2.2.2.2.2.2.2.2.2.2.2.2.2.1,I8 d id ((d.2.2.2.2.2.1).take k),((k:Nat):Int),())) (by
  simp only [jx,az,aT,rO,aA,aN,cond_false,List.take_length]) (fun k hk=>by
  have hb:=O7 d id ((d.2.2.2.2.2.1).take k);rw [List.length_take] at hb;have e:I8 d id ((d.2.2.2.2.2.1).take (k+1))=I8 d id ((d.2.2.2.2.2.1).take k)++(bif decide ((d.2.2.2.2.2.1)[k].2.1=id) then [(d.2.2.2.2.2.1)[k]] else []):=by
   unfold I8;rw [List.take_succ_eq_append_getElem hk,List.filter_append,List.filter_cons,List.filter_nil]
   cases decide ((d.2.2.2.2.2.1)[k].2.1=id)<;>rfl
  simp only [jx,az,aT,rO,aA,e,aF hk,ax,cond_true,aG,List.getElem?_eq_getElem hk,Option.bind_some,aS (show ((I8 d id ((d.2.2.2.2.2.1).take k)).length+1)*40≤lim by unfold lim;omega),aM (show k<4611686018427387904 by omega)]
  cases decide ((d.2.2.2.2.2.1)[k].2.1=id)
  ·simp only [cond_false,List.append_nil]
  ·rfl)
 exact l1
theorem O8 {n:Nat} {w:mj} (h:jV n w) (hn:n≤98) {k:Nat} (hk:k<w.2.1.length):∃a w',sw w.1 w.2.1 w.2.2.1 w.2.2.2.1 ((k+1:Nat):Int)=some (a,w'.1,w'.2.1,w'.2.2.1,w'.2.2.2.1,())∧jV (n+1) w':=by
 have hf:=h.GK;have h5:=h.Am;obtain ⟨hd,wC⟩:=h.Gs k hk;generalize hdd:w.2.1[k]=d at hd wC;have hW:=hd.small (by omega);have e1:fi d.1 d.2.1 d.2.2.1 d.2.2.2.1 d.2.2.2.2.1 d.2.2.2.2.2.1 d.2.2.2.2.2.2.1 d.2.2.2.2.2.2.2.1 d.2.2.2.2.2.2.2.2.1 d.2.2.2.2.2.2.2.2.2.1 d.2.2.2.2.2.2.2.2.2.2.1 d.2.2.2.2.2.2.2.2.2.2.2.1 d.2.2.2.2.2.2.2.2.2.2.2.2.1 d.2.2.2.2.2.2.2.2.2.2.2.2.2.1 d.2.2.2.2.2.2.2.2.2.2.2.2.2.2.1 d.2.2.2.2.2.2.2.2.2.2.2.2.2.2.2.1 d.2.2.2.2.2.2.2.2.2.2.2.2.2.2.2.2.1 d.2.2.2.2.2.2.2.2.2.2.2.2.2.2.2.2.2.1 d.2.2.2.2.2.2.2.2.2.2.2.2.2.2.2.2.2.2.1 d.2.2.2.2.2.2.2.2.2.2.2.2.2.2.2.2.2.2.2.1 d.2.2.2.2.2.2.2.2.2.2.2.2.2.2.2.2.2.2.2.2.1 d.2.2.2.2.2.2.2.2.2.2.2.2.2.2.2.2.2.2.2.2.2.1 d.2.2.2.2.2.2.2.2.2.2.2.2.2.2.2.2.2.2.2.2.2.2.1 d.2.2.2.2.2.2.2.2.2.2.2.2.2.2.2.2.2.2.2.2.2.2.2.1=some (fR d,()):=yg d hW;have e2:fm d.2.2.2.2.2.2.2.2.2.2.2.2.1 d.2.2.2.2.2.2.2.2.2.2.2.2.2.1 d.2.2.2.2.2.2.2.2.2.2.2.2.2.2.1 d.2.2.2.2.2.2.2.2.2.2.2.2.2.2.2.1 d.2.2.2.2.2.2.2.2.2.2.2.2.2.2.2.2.1 d.2.2.2.2.2.2.2.2.2.2.2.2.2.2.2.2.2.1=some (wv (d.2.2.2.2.2.2.2.2.2.2.2.2.1,d.2.2.2.2.2.2.2.2.2.2.2.2.2.1,d.2.2.2.2.2.2.2.2.2.2.2.2.2.2.1,d.2.2.2.2.2.2.2.2.2.2.2.2.2.2.2.1,d.2.2.2.2.2.2.2.2.2.2.2.2.2.2.2.2.1,d.2.2.2.2.2.2.2.2.2.2.2.2.2.2.2.2.2.1,()),()):=(wx (d.2.2.2.2.2.2.2.2.2.2.2.2.1,d.2.2.2.2.2.2.2.2.2.2.2.2.2.1,d.2.2.2.2.2.2.2.2.2.2.2.2.2.2.1,d.2.2.2.2.2.2.2.2.2.2.2.2.2.2.2.1,d.2.2.2.2.2.2.2.2.2.2.2.2.2.2.2.2.1,d.2.2.2.2.2.2.2.2.2.2.2.2.2.2.2.2.2.1,())).1;unfold sw;delta az aw aT bA;simp only [wA (show k<1000 by omega),ax,cond_true,aG,List.getElem?_eq_getElem hk,Option.bind_some,hdd,e1]
 cases hi:fR d
 ·exact ⟨1,w,rfl,h.up (Nat.le_succ n)⟩
 simp only [Bool.not_true,cond_false];rw [e2];simp only [Option.bind_some]
 cases hb:wv (d.2.2.2.2.2.2.2.2.2.2.2.2.1,d.2.2.2.2.2.2.2.2.2.2.2.2.2.1,d.2.2.2.2.2.2.2.2.2.2.2.2.2.2.1,d.2.2.2.2.2.2.2.2.2.2.2.2.2.2.2.1,d.2.2.2.2.2.2.2.2.2.2.2.2.2.2.2.2.1,d.2.2.2.2.2.2.2.2.2.2.2.2.2.2.2.2.2.1,())
 case true=>exact ⟨1,w,rfl,h.up (Nat.le_succ n)⟩
 obtain ⟨m1,m2,_,_⟩:=ve hW hi;have hT:JL (d.2.2.2.2.2.2.2.2.2.2.2.2.1,d.2.2.2.2.2.2.2.2.2.2.2.2.2.1,d.2.2.2.2.2.2.2.2.2.2.2.2.2.2.1,d.2.2.2.2.2.2.2.2.2.2.2.2.2.2.2.1,d.2.2.2.2.2.2.2.2.2.2.2.2.2.2.2.2.1,d.2.2.2.2.2.2.2.2.2.2.2.2.2.2.2.2.2.1,()):=by
  rcases m1.last with q | q
  ·have:=(wx (d.2.2.2.2.2.2.2.2.2.2.2.2.1,d.2.2.2.2.2.2.2.2.2.2.2.2.2.1,d.2.2.2.2.2.2.2.2.2.2.2.2.2.2.1,d.2.2.2.2.2.2.2.2.2.2.2.2.2.2.2.1,d.2.2.2.2.2.2.2.2.2.2.2.2.2.2.2.2.1,d.2.2.2.2.2.2.2.2.2.2.2.2.2.2.2.2.2.1,())).2.2.2 q;rw [hb] at this;cases this
  ·exact q
 have UU:=(dm _ m1.items).1;have UU:(d.2.2.2.2.2.1).length≤60:=UU;have l1:=YG w ((k+1:Nat):Int) d (by omega);have Gw:(((k+1:Nat):Int),())∈(aE d).2.2.1:=by
  have h1:=m1.mem;have m2:(aE d).1=d.1:=m2;rw [m2,wC] at h1;exact h1
 obtain ⟨Cb,hto,e3⟩:=LG w m1.ring Gw (d.2.2.2.2.2.2.2.2.2.2.2.2.1,d.2.2.2.2.2.2.2.2.2.2.2.2.2.1,d.2.2.2.2.2.2.2.2.2.2.2.2.2.2.1,d.2.2.2.2.2.2.2.2.2.2.2.2.2.2.2.1,d.2.2.2.2.2.2.2.2.2.2.2.2.2.2.2.2.1,d.2.2.2.2.2.2.2.2.2.2.2.2.2.2.2.2.2.1,()) (by omega) (Nat.le_trans hT.2.2.2.2.2.1 (by decide));have Si:=O7 d ((k+1:Nat):Int) d.2.2.2.2.2.1;have e4:=LF (fF w (w.2.2.1++[xH Cb (aE d).2.1 (d.2.2.2.2.2.2.2.2.2.2.2.2.1,d.2.2.2.2.2.2.2.2.2.2.2.2.2.1,d.2.2.2.2.2.2.2.2.2.2.2.2.2.2.1,d.2.2.2.2.2.2.2.2.2.2.2.2.2.2.2.1,d.2.2.2.2.2.2.2.2.2.2.2.2.2.2.2.2.1,d.2.2.2.2.2.2.2.2.2.2.2.2.2.2.2.2.2.1,())])) (aE d).2.1 (aE d).2.2.1 ((k+1:Nat):Int) (I8 d ((k+1:Nat):Int) d.2.2.2.2.2.1) m1.ring.2.1.2 (by show (w.2.2.1++[_]).length≤_;rw [List.length_append,List.length_singleton];omega) (by omega);have e3:l6 w.1 w.2.1 w.2.2.1 w.2.2.2.1 d.2.2.2.1 d.2.2.2.2.1 ((k+1:Nat):Int) d.2.2.2.2.2.2.2.2.2.2.2.2.1 d.2.2.2.2.2.2.2.2.2.2.2.2.2.1 d.2.2.2.2.2.2.2.2.2.2.2.2.2.2.1 d.2.2.2.2.2.2.2.2.2.2.2.2.2.2.2.1 d.2.2.2.2.2.2.2.2.2.2.2.2.2.2.2.2.1 d.2.2.2.2.2.2.2.2.2.2.2.2.2.2.2.2.2.1=_:=e3;have htl:=zT (aE d).2.2.1 (aE d).2.1 ((k+1:Nat):Int) m1.ring.2.1.2 (I8 d ((k+1:Nat):Int) d.2.2.2.2.2.1);refine ⟨0,fF (fF w (w.2.2.1++[xH Cb (aE d).2.1 (d.2.2.2.2.2.2.2.2.2.2.2.2.1,d.2.2.2.2.2.2.2.2.2.2.2.2.2.1,d.2.2.2.2.2.2.2.2.2.2.2.2.2.2.1,d.2.2.2.2.2.2.2.2.2.2.2.2.2.2.2.1,d.2.2.2.2.2.2.2.2.2.2.2.2.2.2.2.2.1,d.2.2.2.2.2.2.2.2.2.2.2.2.2.2.2.2.2.1,())])) ((w.2.2.1++[xH Cb (aE d).2.1 (d.2.2.2.2.2.2.2.2.2.2.2.2.1,d.2.2.2.2.2.2.2.2.2.2.2.2.2.1,d.2.2.2.2.2.2.2.2.2.2.2.2.2.2.1,d.2.2.2.2.2.2.2.2.2.2.2.2.2.2.2.1,d.2.2.2.2.2.2.2.2.2.2.2.2.2.2.2.2.1,d.2.2.2.2.2.2.2.2.2.2.2.2.2.2.2.2.2.1,())])++dz (aE d).2.2.1 (aE d).2.1 ((k+1:Nat):Int) (I8 d ((k+1:Nat):Int) d.2.2.2.2.2.1)),?_,?_⟩
 ·simp only [cond_false];rw [l1];simp only [bZ,Option.bind_some];rw [e3];simp only [Option.bind_some];rw [e4];rfl
 ·refine jV.fF (w:=fF w _) ((h.up (Nat.le_succ n)).fF (fun x hx => ?_) ?_) (fun x hx => ?_) ?_
  ·rcases List.mem_append.1 hx with hx | hx
   ·exact h.lets x hx
   ·rw [List.mem_singleton] at hx;subst hx;exact I7 hto hT.2.2.2.2.2.1
  ·rw [List.length_append,List.length_singleton];omega
  ·rcases List.mem_append.1 hx with hx | hx
   ·rcases List.mem_append.1 hx with hx | hx
    ·exact h.lets x hx
    ·rw [List.mem_singleton] at hx;subst hx;exact I7 hto hT.2.2.2.2.2.1
   ·exact MZ m1.ring x hx
  ·rw [List.length_append,List.length_append,List.length_singleton];omega
theorem Q9 {n:Nat} {w:mj} (h:jV n w) (hn:n≤98) {x:GL} (hx:JU x):∃a w',gw w.1 w.2.1 w.2.2.1 w.2.2.2.1 x.1 x.2.1 x.2.2.1 x.2.2.2.1 x.2.2.2.2.1 x.2.2.2.2.2.1 x.2.2.2.2.2.2.1 x.2.2.2.2.2.2.2.1 x.2.2.2.2.2.2.2.2.1 x.2.2.2.2.2.2.2.2.2.1 x.2.2.2.2.2.2.2.2.2.2.1 x.2.2.2.2.2.2.2.2.2.2.2.1 x.2.2.2.2.2.2.2.2.2.2.2.2.1 x.2.2.2.2.2.2.2.2.2.2.2.2.2.1 x.2.2.2.2.2.2.2.2.2.2.2.2.2.2.1 x.2.2.2.2.2.2.2.2.2.2.2.2.2.2.2.1 x.2.2.2.2.2.2.2.2.2.2.2.2.2.2.2.2.1=some (a,w'.1,w'.2.1,w'.2.2.1,w'.2.2.2.1,())∧jV (n+1) w':=by
 have h5:=h.Am;obtain ⟨k,hk⟩:=Int.eq_ofNat_of_zero_le (show 0≤x.2.1-1 by have:=hx.Cb;omega);have hto:x.2.1=((k+1:Nat):Int):=by omega
 have hk:k<w.2.1.length:=by have:=hx.Cb;omega
 obtain ⟨hd,wC⟩:=h.Gs k hk;unfold gw;delta az;simp only [hto,wA (show k<1000 by omega),ax,cond_true,aG,List.getElem?_eq_getElem hk,Option.bind_some]
 by_cases k1:x.1=1
 ·have e1:=(JQ w.2.1[k] x.2.2.1 (x.2.2.2.1,x.2.2.2.2.1,x.2.2.2.2.2.1,x.2.2.2.2.2.2.1,()) (hd.small (by omega))).1;obtain ⟨g1,g2⟩:=QZ hd (by omega) x.2.2.1 (x.2.2.2.1,x.2.2.2.2.1,x.2.2.2.2.2.1,x.2.2.2.2.2.2.1,());have e2:=pR w (by omega) hk (vd w.2.1[k] x.2.2.1 (x.2.2.2.1,x.2.2.2.2.1,x.2.2.2.2.2.1,x.2.2.2.2.2.2.1,())) (g2.trans wC);simp only [ak k1,cond_true];rw [e1];simp only [Option.bind_some];rw [e2];exact ⟨0,_,rfl,(h.up (Nat.le_succ n)).Al hk g1 g2⟩
 by_cases k2:x.1=2
 ·obtain ⟨a,w',e1,hw⟩:=Gt h (by omega) hk (x.2.2.2.2.2.2.2.1,x.2.2.2.2.2.2.2.2.1,x.2.2.2.2.2.2.2.2.2.1,x.2.2.2.2.2.2.2.2.2.2.1,x.2.2.2.2.2.2.2.2.2.2.2.1,x.2.2.2.2.2.2.2.2.2.2.2.2.1,()) (Nat.le_trans hx.Lx (by decide));simp only [aq k1,ak k2,cond_true,cond_false];rw [e1];exact ⟨a,w',rfl,hw⟩
 ·have hbl:(x.2.2.2.2.2.2.2.2.2.2.2.2.2.2.2.2.1).length≤1048576:=Nat.le_trans hx.bun (by decide);have e1:=(MS w.2.1[k] (x.2.2.2.2.2.2.2.2.2.2.2.2.2.1,x.2.2.2.2.2.2.2.2.2.2.2.2.2.2.1,x.2.2.2.2.2.2.2.2.2.2.2.2.2.2.2.1,x.2.2.2.2.2.2.2.2.2.2.2.2.2.2.2.2.1,()) (hd.small (by omega)) hbl).1;simp only [aq k1,aq k2,cond_false];rw [e1];simp only [Option.bind_some]
  cases hb:(bD w.2.1[k] (x.2.2.2.2.2.2.2.2.2.2.2.2.2.1,x.2.2.2.2.2.2.2.2.2.2.2.2.2.2.1,x.2.2.2.2.2.2.2.2.2.2.2.2.2.2.2.1,x.2.2.2.2.2.2.2.2.2.2.2.2.2.2.2.2.1,())).2
  ·exact ⟨1,w,rfl,h.up (Nat.le_succ n)⟩
  ·obtain ⟨g1,g2,_⟩:=Uu hd (by omega) (b:=(x.2.2.2.2.2.2.2.2.2.2.2.2.2.1,x.2.2.2.2.2.2.2.2.2.2.2.2.2.2.1,x.2.2.2.2.2.2.2.2.2.2.2.2.2.2.2.1,x.2.2.2.2.2.2.2.2.2.2.2.2.2.2.2.2.1,())) hbl hb;have e2:=pR w (by omega) hk (bD w.2.1[k] (x.2.2.2.2.2.2.2.2.2.2.2.2.2.1,x.2.2.2.2.2.2.2.2.2.2.2.2.2.2.1,x.2.2.2.2.2.2.2.2.2.2.2.2.2.2.2.1,x.2.2.2.2.2.2.2.2.2.2.2.2.2.2.2.2.1,())).1 (g2.trans wC);simp only [Bool.not_true,cond_false];rw [e2];exact ⟨0,_,rfl,(h.up (Nat.le_succ n)).Al hk g1 g2⟩
abbrev GM:Type:=Int×Int×Int×Int×ByteArray×Unit
structure FG (e:GM):Prop where
 kind:1≤e.1∧e.1≤9
 id:1≤e.2.1∧e.2.1≤5
 at_:0≤e.2.2.1
 say:e.1=1→(1≤e.2.2.2.1∧e.2.2.2.1≤2)∧ByteArray.size e.2.2.2.2.1≤60
 no:e.1≠1→e.2.2.2.1=0∧e.2.2.2.2.1=ByteArray.empty
theorem M0 {n:Nat} {w:mj} (h:jV n w) (hn:n≤98) {e:GM} (he:FG e):∃a w',jO w.1 w.2.1 w.2.2.1 w.2.2.2.1 e.1 e.2.1 e.2.2.1 e.2.2.2.1 e.2.2.2.2.1=some (a,w'.1,w'.2.1,w'.2.2.1,w'.2.2.2.1,())∧jV (n+1) w':=by
 have hf:=h.GK;unfold jO;delta ba
 by_cases h0:w.2.2.1.length=0
 ·rw [ak (show ((List.length w.2.2.1:Nat):Int)=0 by omega)];exact ⟨1,w,rfl,h.up (Nat.le_succ n)⟩
 obtain ⟨i,hi⟩:=Int.eq_ofNat_of_zero_le he.at_;have dO:i % w.2.2.1.length<w.2.2.1.length:=Nat.mod_lt _ (by omega);generalize hj:i % w.2.2.1.length=j at dO;have et:Int.tmod e.2.2.1 ((List.length w.2.2.1:Nat):Int)=((j:Nat):Int):=by rw [hi,←hj];exact abR _ _
 have hX:=h.lets _ (List.getElem_mem dO);simp only [aq (show ¬((List.length w.2.2.1:Nat):Int)=0 by omega),cond_false,et,ax,aG,List.getElem?_eq_getElem dO,Option.bind_some,cond_true]
 by_cases k5:e.1=5
 ·have hs:=EA w (by omega) w.2.2.1[j];simp only [ak k5,cond_true];rw [hs];refine ⟨0,_,rfl,(h.up (Nat.le_succ n)).fF (fun x hx => ?_) ?_⟩
  ·rcases List.mem_append.1 hx with hx | hx
   ·exact h.lets x hx
   ·rw [List.mem_singleton] at hx;subst hx;exact hX
  ·rw [List.length_append,List.length_singleton];omega
 have SD:(List.take j w.2.2.1).length≤w.2.2.1.length:=by rw [List.length_take];omega
 have hl2:(List.drop (j+1) w.2.2.1).length≤w.2.2.1.length:=by rw [List.length_drop];omega
 have hW:jV n (fF w (List.take j w.2.2.1++List.drop (j+1) w.2.2.1)):=h.fF (fun x hx=>by
  rcases List.mem_append.1 hx with hx | hx
  ·exact h.lets x (List.mem_of_mem_take hx)
  ·exact h.lets x (List.mem_of_mem_drop hx)) (by rw [List.length_append,List.length_take,List.length_drop];omega)
 obtain ⟨b,w',e2,hw⟩:=Q9 hW hn hX;have e2:gw w.1 w.2.1 (List.take j w.2.2.1++List.drop (j+1) w.2.2.1) w.2.2.2.1 (w.2.2.1[j]).1 (w.2.2.1[j]).2.1 (w.2.2.1[j]).2.2.1 (w.2.2.1[j]).2.2.2.1 (w.2.2.1[j]).2.2.2.2.1 (w.2.2.1[j]).2.2.2.2.2.1 (w.2.2.1[j]).2.2.2.2.2.2.1 (w.2.2.1[j]).2.2.2.2.2.2.2.1 (w.2.2.1[j]).2.2.2.2.2.2.2.2.1 (w.2.2.1[j]).2.2.2.2.2.2.2.2.2.1 (w.2.2.1[j]).2.2.2.2.2.2.2.2.2.2.1 (w.2.2.1[j]).2.2.2.2.2.2.2.2.2.2.2.1 (w.2.2.1[j]).2.2.2.2.2.2.2.2.2.2.2.2.1 (w.2.2.1[j]).2.2.2.2.2.2.2.2.2.2.2.2.2.1 (w.2.2.1[j]).2.2.2.2.2.2.2.2.2.2.2.2.2.2.1 (w.2.2.1[j]).2.2.2.2.2.2.2.2.2.2.2.2.2.2.2.1 (w.2.2.1[j]).2.2.2.2.2.2.2.2.2.2.2.2.2.2.2.2.1=some (b,w'.1,w'.2.1,w'.2.2.1,w'.2.2.2.1,()):=e2;simp only [aq k5,cond_false,ak (show ((j:Nat):Int)≤((List.length w.2.2.1:Nat):Int) by omega),cond_true,List.drop_zero,List.nil_append,aM (show j<4611686018427387904 by omega),ax,aG,
  ak (show (((j+1:Nat)):Int)≤((List.length w.2.2.1:Nat):Int) by omega),aS (show (0+(List.take j w.2.2.1).length)*176≤lim by unfold lim;omega),aS (show ((List.take j w.2.2.1).length+(List.drop (j+1) w.2.2.1).length)*176≤lim by unfold lim;omega),dg]
 by_cases k4:e.1=4
 ·rw [ak k4];exact ⟨0,_,rfl,hW.up (Nat.le_succ n)⟩
 ·rw [aq k4,e2];exact ⟨b,w',rfl,hw⟩
theorem UC {n:Nat} {d:bY} (h:lI n d) (hn:n≤100):zm d.1 d.2.1 d.2.2.1 d.2.2.2.1 d.2.2.2.2.1 d.2.2.2.2.2.1 d.2.2.2.2.2.2.1 d.2.2.2.2.2.2.2.1 d.2.2.2.2.2.2.2.2.1 d.2.2.2.2.2.2.2.2.2.1 d.2.2.2.2.2.2.2.2.2.2.1 d.2.2.2.2.2.2.2.2.2.2.2.1 d.2.2.2.2.2.2.2.2.2.2.2.2.1 d.2.2.2.2.2.2.2.2.2.2.2.2.2.1 d.2.2.2.2.2.2.2.2.2.2.2.2.2.2.1 d.2.2.2.2.2.2.2.2.2.2.2.2.2.2.2.1 d.2.2.2.2.2.2.2.2.2.2.2.2.2.2.2.2.1 d.2.2.2.2.2.2.2.2.2.2.2.2.2.2.2.2.2.1 d.2.2.2.2.2.2.2.2.2.2.2.2.2.2.2.2.2.2.1 d.2.2.2.2.2.2.2.2.2.2.2.2.2.2.2.2.2.2.2.1 d.2.2.2.2.2.2.2.2.2.2.2.2.2.2.2.2.2.2.2.2.1 d.2.2.2.2.2.2.2.2.2.2.2.2.2.2.2.2.2.2.2.2.2.1 d.2.2.2.2.2.2.2.2.2.2.2.2.2.2.2.2.2.2.2.2.2.2.1 d.2.2.2.2.2.2.2.2.2.2.2.2.2.2.2.2.2.2.2.2.2.2.2.1=some (Yz d):=by
 have hW:=h.small hn;unfold ow at hW;unfold zm;rw [tQ _ (by omega)];rfl
theorem UD (d:bY) (h:ow d≤1048576):BM d.1 d.2.1 d.2.2.1 d.2.2.2.1 d.2.2.2.2.1 d.2.2.2.2.2.1 d.2.2.2.2.2.2.1 d.2.2.2.2.2.2.2.1 d.2.2.2.2.2.2.2.2.1 d.2.2.2.2.2.2.2.2.2.1 d.2.2.2.2.2.2.2.2.2.2.1 d.2.2.2.2.2.2.2.2.2.2.2.1 d.2.2.2.2.2.2.2.2.2.2.2.2.1 d.2.2.2.2.2.2.2.2.2.2.2.2.2.1 d.2.2.2.2.2.2.2.2.2.2.2.2.2.2.1 d.2.2.2.2.2.2.2.2.2.2.2.2.2.2.2.1 d.2.2.2.2.2.2.2.2.2.2.2.2.2.2.2.2.1 d.2.2.2.2.2.2.2.2.2.2.2.2.2.2.2.2.2.1 d.2.2.2.2.2.2.2.2.2.2.2.2.2.2.2.2.2.2.1 d.2.2.2.2.2.2.2.2.2.2.2.2.2.2.2.2.2.2.2.1 d.2.2.2.2.2.2.2.2.2.2.2.2.2.2.2.2.2.2.2.2.1 d.2.2.2.2.2.2.2.2.2.2.2.2.2.2.2.2.2.2.2.2.2.1 d.2.2.2.2.2.2.2.2.2.2.2.2.2.2.2.2.2.2.2.2.2.2.1 d.2.2.2.2.2.2.2.2.2.2.2.2.2.2.2.2.2.2.2.2.2.2.2.1=some ((jo d).1.1,(jo d).1.2.1,(jo d).1.2.2.1,(jo d).1.2.2.2.1,(jo d).1.2.2.2.2.1,(jo d).1.2.2.2.2.2.1,(jo d).1.2.2.2.2.2.2.1,(jo d).1.2.2.2.2.2.2.2.1,(jo d).1.2.2.2.2.2.2.2.2.1,(jo d).1.2.2.2.2.2.2.2.2.2.1,(jo d).1.2.2.2.2.2.2.2.2.2.2.1,(jo d).1.2.2.2.2.2.2.2.2.2.2.2.1,(jo d).1.2.2.2.2.2.2.2.2.2.2.2.2.1,(jo d).1.2.2.2.2.2.2.2.2.2.2.2.2.2.1,(jo d).1.2.2.2.2.2.2.2.2.2.2.2.2.2.2.1,(jo d).1.2.2.2.2.2.2.2.2.2.2.2.2.2.2.2.1,(jo d).1.2.2.2.2.2.2.2.2.2.2.2.2.2.2.2.2.1,(jo d).1.2.2.2.2.2.2.2.2.2.2.2.2.2.2.2.2.2.1,(jo d).1.2.2.2.2.2.2.2.2.2.2.2.2.2.2.2.2.2.2.1,(jo d).1.2.2.2.2.2.2.2.2.2.2.2.2.2.2.2.2.2.2.2.1,(jo d).1.2.2.2.2.2.2.2.2.2.2.2.2.2.2.2.2.2.2.2.2.1,(jo d).1.2.2.2.2.2.2.2.2.2.2.2.2.2.2.2.2.2.2.2.2.2.1,(jo d).1.2.2.2.2.2.2.2.2.2.2.2.2.2.2.2.2.2.2.2.2.2.2.1,(jo d).1.2.2.2.2.2.2.2.2.2.2.2.2.2.2.2.2.2.2.2.2.2.2.2.1,(jo d).2,()):=by
 obtain ⟨k1,k2,_⟩:=m7 d h;obtain ⟨p1,p2⟩:=uQ d h;unfold BM jo;delta cS bt;simp only [k1,p1,Option.bind_some]
 cases hb:jU d
 ·rfl
 ·cases hd:d.2.1<;>rfl
theorem I9 {n:Nat} {w:mj} (h:jV n w) (hn:n≤98) {e:GM} (he:FG e):∃a w',pN w.1 w.2.1 w.2.2.1 w.2.2.2.1 e.1 e.2.1 e.2.2.1 e.2.2.2.1 e.2.2.2.2.1=some (a,w'.1,w'.2.1,w'.2.2.1,w'.2.2.2.1,())∧jV (n+1) w':=by
 have h5:=h.Am;obtain ⟨k,hk⟩:=Int.eq_ofNat_of_zero_le (show 0≤e.2.1-1 by have:=he.id;omega);have hto:e.2.1=((k+1:Nat):Int):=by omega
 have hk:k<w.2.1.length:=by have:=he.id;omega
 obtain ⟨hd,wC⟩:=h.Gs k hk;have hW:=hd.small (by omega);unfold pN;delta az aT;simp only [hto,wA (show k<1000 by omega),ax,cond_true,aG,List.getElem?_eq_getElem hk,Option.bind_some]
 by_cases k1:e.1=1
 ·obtain ⟨a1,a2⟩:=he.say k1;have e1:=(Gk w.2.1[k] e.2.2.2.1 e.2.2.2.2.1 hW).1;simp only [ak k1,cond_true];rw [e1];simp only [Option.bind_some]
  cases hb:(bK w.2.1[k] e.2.2.2.1 e.2.2.2.2.1).2
  ·exact ⟨1,w,rfl,h.up (Nat.le_succ n)⟩
  ·obtain ⟨g1,g2⟩:=amb hd (by omega) a1 a2 hb;have e2:=pR w (by omega) hk (bK w.2.1[k] e.2.2.2.1 e.2.2.2.2.1).1 (g2.trans wC);simp only [Bool.not_true,cond_false];rw [e2];exact ⟨0,_,rfl,(h.up (Nat.le_succ n)).Al hk g1 g2⟩
 by_cases k2:e.1=2
 ·obtain ⟨t,b,e1,_,ht⟩:=El w.2.1[k] hW;simp only [aq k1,ak k2,cond_true,cond_false];rw [e1];simp only [Option.bind_some]
  cases b
  ·exact ⟨1,w,rfl,h.up (Nat.le_succ n)⟩
  ·obtain ⟨a,w',e2,hw⟩:=Gt h (by omega) hk t (by rw [ht];exact Nat.zero_le _);simp only [Bool.not_true,cond_false];rw [e2];exact ⟨a,w',rfl,hw⟩
 by_cases k6:e.1=6
 ·obtain ⟨a,w',e2,hw⟩:=O8 h hn hk;simp only [aq k1,aq k2,ak k6,cond_true,cond_false];rw [e2];exact ⟨a,w',rfl,hw⟩
 by_cases k7:e.1=7
 ·obtain ⟨a,w',e2,hw⟩:=Q8 h hn hk;simp only [aq k1,aq k2,aq k6,ak k7,cond_true,cond_false];rw [e2];exact ⟨a,w',rfl,hw⟩
 by_cases k8:e.1=8
 ·simp only [aq k1,aq k2,aq k6,aq k7,ak k8,cond_true,cond_false]
  cases hb:(w.2.1[k]).2.1
  ·have e1:=UC hd (by omega);have e2:=pR w (by omega) hk (Yz w.2.1[k]) wC;rw [hb] at e1;simp only [cond_false];rw [e1];simp only [Option.bind_some];rw [e2];exact ⟨0,_,rfl,(h.up (Nat.le_succ n)).Al hk ((ahh hd).up (Nat.le_succ n)) rfl⟩
  ·exact ⟨1,w,rfl,h.up (Nat.le_succ n)⟩
 by_cases k9:e.1=9
 ·have e1:=UD w.2.1[k] hW;simp only [aq k1,aq k2,aq k6,aq k7,aq k8,ak k9,cond_true,cond_false];rw [e1];simp only [Option.bind_some]
  cases hb:(jo w.2.1[k]).2
  ·exact ⟨1,w,rfl,h.up (Nat.le_succ n)⟩
  ·obtain ⟨g1,g2⟩:=ahi hd hb;have e2:=pR w (by omega) hk (jo w.2.1[k]).1 (g2.trans wC);simp only [Bool.not_true,cond_false];rw [e2];exact ⟨0,_,rfl,(h.up (Nat.le_succ n)).Al hk (g1.up (Nat.le_succ n)) g2⟩
 ·obtain ⟨a,w',e2,hw⟩:=M0 h hn he;rw [hto] at e2;simp only [aq k1,aq k2,aq k6,aq k7,aq k8,aq k9,cond_false];rw [e2];exact ⟨a,w',rfl,hw⟩
end Go.TM
set_option linter.unusedSimpArgs false
set_option linter.unusedVariables false
namespace Go.TM
open Go
theorem aas {v:Int} (h:(v,())∈[((1:Int),()),(1,()),(1,()),(2,()),(3,()),(3,()),(3,()),(3,()),(3,()),(3,()),(3,()),(3,()),(3,()),(4,()),(5,()),(6,()),(7,()),(7,()),(8,()),(9,())]):1≤v∧v≤9:=by
 simp only [List.mem_cons,Prod.mk.injEq,and_true,List.not_mem_nil,or_false] at h;omega
theorem UE (d:bY) (h:ow d≤1048576):∃(t:kJ) (b:Bool),n6 d.1 d.2.1 d.2.2.1 d.2.2.2.1 d.2.2.2.2.1 d.2.2.2.2.2.1 d.2.2.2.2.2.2.1 d.2.2.2.2.2.2.2.1 d.2.2.2.2.2.2.2.2.1 d.2.2.2.2.2.2.2.2.2.1 d.2.2.2.2.2.2.2.2.2.2.1 d.2.2.2.2.2.2.2.2.2.2.2.1 d.2.2.2.2.2.2.2.2.2.2.2.2.1 d.2.2.2.2.2.2.2.2.2.2.2.2.2.1 d.2.2.2.2.2.2.2.2.2.2.2.2.2.2.1 d.2.2.2.2.2.2.2.2.2.2.2.2.2.2.2.1 d.2.2.2.2.2.2.2.2.2.2.2.2.2.2.2.2.1 d.2.2.2.2.2.2.2.2.2.2.2.2.2.2.2.2.2.1 d.2.2.2.2.2.2.2.2.2.2.2.2.2.2.2.2.2.2.1 d.2.2.2.2.2.2.2.2.2.2.2.2.2.2.2.2.2.2.2.1 d.2.2.2.2.2.2.2.2.2.2.2.2.2.2.2.2.2.2.2.2.1 d.2.2.2.2.2.2.2.2.2.2.2.2.2.2.2.2.2.2.2.2.2.1 d.2.2.2.2.2.2.2.2.2.2.2.2.2.2.2.2.2.2.2.2.2.2.1 d.2.2.2.2.2.2.2.2.2.2.2.2.2.2.2.2.2.2.2.2.2.2.2.1=some (t.1,t.2.1,t.2.2.1,t.2.2.2.1,t.2.2.2.2.1,t.2.2.2.2.2.1,b,()):=by
 obtain ⟨t,b,e,_⟩:=El d h;exact ⟨t,b,e⟩
theorem Ja (code:List (Int×Unit)) (a s:Int) {n:Nat} {w:mj} (h:jV n w) (hn:n≤98) {v id b:Int} (hv:v=2∨v=7) (wC:1≤id∧id≤3) :
  ∃sG,(1≤sG∧sG≤3)∧aJ iR (code,a,s,w.1,w.2.1,w.2.2.1,w.2.2.2.1,(0:Int),(0:Int),(0:Int),(0:Int),ByteArray.empty,v,id,b,(0:Int),ByteArray.empty,(0:Int),())=some (.inl (code,a,s,w.1,w.2.1,w.2.2.1,w.2.2.2.1,(0:Int),(0:Int),(0:Int),(0:Int),ByteArray.empty,v,sG,b,(0:Int),ByteArray.empty,())):=by
 have h5:=h.Am;obtain ⟨e,he,sG,rfl,hq⟩:=dt (round:=iR) (x:=(code,a,s,w.1,w.2.1,w.2.2.1,w.2.2.2.1,(0:Int),(0:Int),(0:Int),(0:Int),ByteArray.empty,v,id,b,(0:Int),ByteArray.empty,((0:Nat):Int),())) 3
  (fun k x=>∃sG,x=(code,a,s,w.1,w.2.1,w.2.2.1,w.2.2.2.1,(0:Int),(0:Int),(0:Int),(0:Int),ByteArray.empty,v,sG,b,(0:Int),ByteArray.empty,((k:Nat):Int),())∧1≤sG∧sG≤3)
  (fun e=>∃sG,e=.inl (code,a,s,w.1,w.2.1,w.2.2.1,w.2.2.2.1,(0:Int),(0:Int),(0:Int),(0:Int),ByteArray.empty,v,sG,b,(0:Int),ByteArray.empty,())∧1≤sG∧sG≤3) (by
   rintro x ⟨sG,rfl,g⟩
   exact ⟨_,by simp only [iR,ba,tf,az,aq (show ¬((3:Nat):Int)<3 by omega),cond_false],sG,rfl,g⟩) (by
   rintro k x hk ⟨sG,rfl,g⟩
   have hk5:k<w.2.1.length:=by omega
   obtain ⟨t,fb,e1⟩:=UE w.2.1[k] ((h.Gs k hk5).1.small (by omega));obtain ⟨j,hj⟩:=Int.eq_ofNat_of_zero_le (show 0≤sG-1 by omega);have V4:sG=((j+1:Nat):Int):=by omega
   have hj5:j<w.2.1.length:=by omega
   have Xa:IntKind.i64.wrap (((k:Nat):Int)+1)=((k+1:Nat):Int):=aM (show k<4611686018427387904 by omega);simp only [iR,ba,tf,az,ak (show ((k:Nat):Int)<3 by omega),cond_true,ax,aG,List.getElem?_eq_getElem hk5,Option.bind_some,e1,Xa];rcases hv with hv | hv
   ·simp only [ak hv,aq (show ¬v=7 by omega),cond_true,cond_false]
    cases fb
    ·exact .inr ⟨_,rfl,sG,rfl,g⟩
    ·exact .inr ⟨_,rfl,((k+1:Nat):Int),rfl,by omega,by omega⟩
   ·simp only [aq (show ¬v=2 by omega),ak hv,cond_true,cond_false,V4,wA (show j<1000 by omega),ax,aG,List.getElem?_eq_getElem hj5,Option.bind_some];rw [←V4]
    cases fb
    ·simp only [cond_false]
     cases decide ((w.2.1[k]).2.2.2.2.2.2.2.2.2.2.2.2.2.2.2.2.2.2.1<(w.2.1[j]).2.2.2.2.2.2.2.2.2.2.2.2.2.2.2.2.2.2.1)
     ·exact .inr ⟨_,rfl,sG,rfl,g⟩
     ·exact .inr ⟨_,rfl,((k+1:Nat):Int),rfl,by omega,by omega⟩
    ·simp only [cond_true]
     cases decide ((w.2.1[k]).2.2.2.2.2.2.2.2.2.2.2.2.2.2.2.2.2.2.1<(w.2.1[j]).2.2.2.2.2.2.2.2.2.2.2.2.2.2.2.2.2.2.1)
     ·exact .inr ⟨_,rfl,sG,rfl,g⟩
     ·exact .inr ⟨_,rfl,((k+1:Nat):Int),rfl,by omega,by omega⟩) ⟨id,rfl,wC⟩
 exact ⟨sG,hq,he⟩
theorem Ra (code:List (Int×Unit)) (a s:Int) {n:Nat} {w:mj} (h:jV n w) {v id b:Int} (wC:1≤id∧id≤3) :
  ∃sG,(1≤sG∧sG≤3)∧aJ j7 (code,a,s,w.1,w.2.1,w.2.2.1,w.2.2.2.1,(0:Int),(0:Int),(0:Int),(0:Int),ByteArray.empty,v,id,b,(0:Int),ByteArray.empty,(0:Int),())=some (.inl (code,a,s,w.1,w.2.1,w.2.2.1,w.2.2.2.1,(0:Int),(0:Int),(0:Int),(0:Int),ByteArray.empty,v,sG,b,(0:Int),ByteArray.empty,())):=by
 have h5:=h.Am;obtain ⟨e,he,sG,rfl,hq⟩:=dt (round:=j7) (x:=(code,a,s,w.1,w.2.1,w.2.2.1,w.2.2.2.1,(0:Int),(0:Int),(0:Int),(0:Int),ByteArray.empty,v,id,b,(0:Int),ByteArray.empty,((0:Nat):Int),())) 3
  (fun k x=>∃sG,x=(code,a,s,w.1,w.2.1,w.2.2.1,w.2.2.2.1,(0:Int),(0:Int),(0:Int),(0:Int),ByteArray.empty,v,sG,b,(0:Int),ByteArray.empty,((k:Nat):Int),())∧1≤sG∧sG≤3)
  (fun e=>∃sG,e=.inl (code,a,s,w.1,w.2.1,w.2.2.1,w.2.2.2.1,(0:Int),(0:Int),(0:Int),(0:Int),ByteArray.empty,v,sG,b,(0:Int),ByteArray.empty,())∧1≤sG∧sG≤3) (by
   rintro x ⟨sG,rfl,g⟩
   exact ⟨_,by simp only [j7,ba,tg,aq (show ¬((3:Nat):Int)<3 by omega),cond_false],sG,rfl,g⟩) (by
   rintro k x hk ⟨sG,rfl,g⟩
   have hk5:k<w.2.1.length:=by omega
   have Xa:IntKind.i64.wrap (((k:Nat):Int)+1)=((k+1:Nat):Int):=aM (show k<4611686018427387904 by omega);simp only [j7,ba,tg,ak (show ((k:Nat):Int)<3 by omega),cond_true,ax,aG,List.getElem?_eq_getElem hk5,Option.bind_some,Xa]
   cases (w.2.1[k]).2.1
   ·exact .inr ⟨_,rfl,sG,rfl,g⟩
   ·exact .inr ⟨_,rfl,((k+1:Nat):Int),rfl,by omega,by omega⟩) ⟨id,rfl,wC⟩
 exact ⟨sG,hq,he⟩
theorem ED (code:List (Int×Unit)) {n:Nat} {w:mj} (h:jV n w) (hn:n≤98) {v id b:Int} (hv:1≤v∧v≤9) (wC:1≤id∧id≤3) (hb:0≤b) (a s:Int) (d:cn code a) :
  ∃(e:GM) (a' s':Int),iT code a s w.1 w.2.1 w.2.2.1 w.2.2.2.1 0 0 0 0 ByteArray.empty v id b 0 ByteArray.empty=some (e.1,e.2.1,e.2.2.1,e.2.2.2.1,e.2.2.2.2.1,code,a',s',w.1,w.2.1,w.2.2.1,w.2.2.2.1,())∧FG e∧cn code a':=by
 unfold iT;delta aA bt
 by_cases k1:v=1
 ·obtain ⟨l,a1,s1,e1,l0,l1,d1⟩:=dN code a s 2 d (by omega);obtain ⟨t,a2,s2,e2,ht,d2⟩:=O2 code a1 s1 [((ByteArray.mk #[112]),()),((ByteArray.mk #[113]),()),((ByteArray.mk #[114]),()),((ByteArray.mk #[115]),()),((ByteArray.mk #[116]),())] d1 (by decide);have hts:ByteArray.size t≤60:=by
   simp only [List.mem_cons,Prod.mk.injEq,and_true,List.not_mem_nil,or_false] at ht;rcases ht with rfl | rfl | rfl | rfl | rfl<;>decide
  refine ⟨(v,id,b,1+l,t,()),a2,s2,?_,⟨hv,⟨wC.1,by show id≤5;omega⟩,hb,fun _=>⟨by show 1≤1+l∧1+l≤2;omega,hts⟩,fun h1=>absurd k1 h1⟩,d2⟩;simp only [ak k1,cond_true,e1,e2,Option.bind_some];rw [dq (show -9223372036854775808≤1+l by omega) (by omega)]
 have done:∀sG b':Int,(1≤sG∧sG≤3)→0≤b'→FG (v,sG,b',0,ByteArray.empty,()):=fun sG b' h1 h2=>⟨hv,⟨h1.1,by show sG≤5;omega⟩,h2,fun g=>absurd g k1,fun _=>⟨rfl,rfl⟩⟩
 by_cases k2:v=2
 ·obtain ⟨sG,hi,e1⟩:=Ja code a s h hn (b:=b) (.inl k2) wC;refine ⟨(v,sG,b,0,ByteArray.empty,()),a,s,?_,done sG b hi hb,d⟩;simp only [aq k1,ak k2,cond_true,cond_false,e1,bZ,Option.bind_some]
 by_cases k7:v=7
 ·obtain ⟨sG,hi,e1⟩:=Ja code a s h hn (b:=b) (.inr k7) wC;refine ⟨(v,sG,b,0,ByteArray.empty,()),a,s,?_,done sG b hi hb,d⟩;simp only [aq k1,aq k2,ak k7,cond_true,cond_false,e1,bZ,Option.bind_some]
 by_cases k3:v=3
 ·obtain ⟨o,a1,s1,e1,d1⟩:=q7 code a s 2 d (by omega);simp only [aq k1,aq k2,aq k7,ak k3,cond_true,cond_false,e1,Option.bind_some]
  cases o
  ·exact ⟨(v,id,b,0,ByteArray.empty,()),a1,s1,rfl,done id b wC hb,d1⟩
  ·exact ⟨(v,id,0,0,ByteArray.empty,()),a1,s1,rfl,done id 0 wC (Int.le_refl _),d1⟩
 by_cases k9:v=9
 ·obtain ⟨sG,hi,e1⟩:=Ra code a s h (v:=v) (b:=b) wC;refine ⟨(v,sG,b,0,ByteArray.empty,()),a,s,?_,done sG b hi hb,d⟩;simp only [aq k1,aq k2,aq k7,aq k3,ak k9,cond_true,cond_false,e1,bZ,Option.bind_some]
 ·refine ⟨(v,id,b,0,ByteArray.empty,()),a,s,?_,done id b wC hb,d⟩;simp only [aq k1,aq k2,aq k7,aq k3,aq k9,cond_false]
theorem Jb (code:List (Int×Unit)) {n:Nat} {w:mj} (h:jV n w) (hn:n≤98) {v id b:Int} (hv:1≤v∧v≤9) (wC:1≤id∧id≤3) (hb:0≤b) (a s:Int) (d:cn code a) :
  ∃(e:GM) (a' s':Int),j8 code a s w.1 w.2.1 w.2.2.1 w.2.2.2.1 0 0 0 0 ByteArray.empty v id b 0 ByteArray.empty=some (e.1,e.2.1,e.2.2.1,e.2.2.2.1,e.2.2.2.2.1,code,a',s',w.1,w.2.1,w.2.2.1,w.2.2.2.1,())∧FG e∧cn code a':=by
 unfold j8
 cases decide (v=7)
 ·exact ED code h hn hv wC hb a s d
 cases decide ((0:Int)<((List.length w.2.2.1:Nat):Int))
 ·exact ED code h hn hv wC hb a s d
 ·obtain ⟨o,a1,s1,e1,d1⟩:=q7 code a s 3 d (by omega);simp only [cond_true,e1,Option.bind_some]
  cases o
  ·simp only [Bool.not_false,cond_true];exact ED code h hn (by omega) wC hb a1 s1 d1
  ·simp only [Bool.not_true,cond_false];exact ED code h hn hv wC hb a1 s1 d1
theorem Jc (code:List (Int×Unit)) {n:Nat} {w:mj} (h:jV n w) (hn:n≤98) {v id b:Int} (hv:1≤v∧v≤9) (wC:1≤id∧id≤3) (hb:0≤b) (a s:Int) (d:cn code a) :
  ∃(e:GM) (a' s':Int),j9 code a s w.1 w.2.1 w.2.2.1 w.2.2.2.1 0 0 0 0 ByteArray.empty v id b 0 ByteArray.empty=some (e.1,e.2.1,e.2.2.1,e.2.2.2.1,e.2.2.2.2.1,code,a',s',w.1,w.2.1,w.2.2.1,w.2.2.2.1,())∧FG e∧cn code a':=by
 unfold j9
 cases decide (((List.length w.2.2.1:Nat):Int)=0)
 ·exact Jb code h hn hv wC hb a s d
 ·simp only [cond_true,mE,Option.bind_some]
  cases (decide (3≤v)&&decide (v≤5))
  ·exact Jb code h hn hv wC hb a s d
  ·obtain ⟨v2,a1,s1,e1,Ph,d1⟩:=zS code a s [((2:Int),()),(6,()),(7,())] d (by decide);simp only [cond_true,e1,Option.bind_some];refine Jb code h hn ?_ wC hb a1 s1 d1;simp only [List.mem_cons,Prod.mk.injEq,and_true,List.not_mem_nil,or_false] at Ph;omega
theorem YH (code:List (Int×Unit)) (a s:Int) (d:cn code a) {n:Nat} {w:mj} (h:jV n w) (hn:n≤98) :
  ∃(e:GM) (a' s':Int),uo code a s w.1 w.2.1 w.2.2.1 w.2.2.2.1=some (e.1,e.2.1,e.2.2.1,e.2.2.2.1,e.2.2.2.2.1,code,a',s',w.1,w.2.1,w.2.2.1,w.2.2.2.1,())∧FG e∧cn code a':=by
 obtain ⟨v,a1,s1,e1,hv,d1⟩:=zS code a s [((1:Int),()),(1,()),(1,()),(2,()),(3,()),(3,()),(3,()),(3,()),(3,()),(3,()),(3,()),(3,()),(3,()),(4,()),(5,()),(6,()),(7,()),(7,()),(8,()),(9,())] d (by decide);obtain ⟨i,a2,s2,e2,i0,i1,d2⟩:=dN code a1 s1 3 d1 (by omega);obtain ⟨b,a3,s3,e3,b0,b1,d3⟩:=dN code a2 s2 30 d2 (by omega);have hv:=aas hv;have hi:IntKind.i64.wrap (1+i)=1+i:=dq (by omega) (by omega);unfold uo;simp only [e1,e2,e3,Option.bind_some,hi]
 cases decide (v=8)
 ·exact Jc code h hn hv (by omega) b0 a3 s3 d3
 ·obtain ⟨o,a4,s4,e4,d4⟩:=q7 code a3 s3 4 d3 (by omega);simp only [cond_true,e4,Option.bind_some]
  cases o
  ·simp only [Bool.not_false,cond_true];exact Jc code h hn (by omega) (by omega) b0 a4 s4 d4
  ·simp only [Bool.not_true,cond_false];exact Jc code h hn hv (by omega) b0 a4 s4 d4
end Go.TM
set_option linter.unusedSimpArgs false
set_option linter.unusedVariables false
namespace Go.TM
open Go
theorem LI {c:Int} {ms:dG} (h:I5 c ms):lU c ms:=⟨⟨h.y0,h.py⟩,⟨h.some_,h.len⟩,fun k hk _=>⟨by have:=h.rising.2.1 k hk;omega,fun h0=>h.rising.2.2 (k-1) k (by omega) hk (by omega)⟩⟩
theorem YI (code:List (Int×Unit)) (h:code.length≤1048576):∃n:Nat,um code=some (((n:Nat):Int),())∧n≤89:=by
 have e:Int.tdiv ((List.length code:Nat):Int) 4=((code.length / 4:Nat):Int):=rfl;unfold um;rw [e,dq (show -9223372036854775808≤((code.length / 4:Nat):Int) by omega) (by omega),dq (show -9223372036854775808≤24+((code.length / 4:Nat):Int) by omega) (by omega)]
 by_cases g:89<24+code.length / 4
 ·rw [ak (show (89:Int)<24+((code.length / 4:Nat):Int) by omega)];exact ⟨89,rfl,Nat.le_refl _⟩
 ·rw [aq (show ¬(89:Int)<24+((code.length / 4:Nat):Int) by omega)];exact ⟨24+code.length / 4,rfl,by omega⟩
theorem O9 {rs:O5} (h:I6 rs):uk rs=some (true,()):=by
 have hf:=h.GK;have hs:=h.some_;have l1:=ck (round:=j6) (e:=.inl (rs,())) rs.length (fun k=>(rs,((k:Nat):Int),())) (by
  simp only [j6,td,aN,cond_false]) (fun k hk=>by
  obtain ⟨e1,e2,_⟩:=h.each k hk;have hr:=LI e2;have hl:(rs[k]).2.1.length≤1048576:=by have:=hr.2.1.2;omega
  have r1:=(qU (rs[k]).1 (rs[k]).2.1 hl).1;rw [(qU (rs[k]).1 (rs[k]).2.1 hl).2.2.2 hr] at r1;simp only [j6,td,aF hk,ax,cond_true,aG,List.getElem?_eq_getElem hk,Option.bind_some,r1,Bool.not_true,cond_false,aM (show k<4611686018427387904 by omega),ak e1])
 have l1:aJ j6 (rs,(0:Int),())=_:=l1;unfold uk;simp only [l1,bZ,Option.bind_some,mE,ak (show (1:Int)≤((List.length rs:Nat):Int) by omega),ak (show ((List.length rs:Nat):Int)≤9 by omega),Bool.and_self]
theorem YJ {rs:O5} (h:∀r∈rs,lU r.1 r.2.1) (hl:rs.length≤9):rs.length+wl Bo rs≤1048576:=by
 have:=IM Bo 5 rs (fun r hr=>by
  have h1:=(h r hr).2.1.2;have e:Bo r=r.2.1.length+wl jR r.2.1:=rfl;have e2:wl jR r.2.1=0:=nb jR (fun _=>rfl) _;omega)
 omega
def de (rs:O5):mj:=(rs,oA 5,[],[],())
theorem YK (k:Nat) (hk:k<5):ye (C5 (((k:Nat):Int)+1)):=
 {
  id:=⟨by show (1:Int)≤((k:Nat):Int)+1;omega,by show ((k:Nat):Int)+1≤5;omega⟩
  xD:=⟨Int.le_refl _,show (0:Int)≤9 by decide⟩
  dead:=fun e=>by cases e
  tS:=.inl ⟨rfl,rfl,rfl,rfl,rfl,rfl,rfl,rfl,rfl,rfl,rfl,rfl,rfl,rfl,rfl,rfl⟩
  old:=⟨rfl,Int.le_refl _⟩
  nS:=.inl ⟨rfl,rfl,rfl⟩ }
theorem YL (k:Nat) (hk:k<(oA 5).length):lI 0 (oA 5)[k]∧((oA 5)[k]).1=((k+1:Nat):Int):=by
 have hk0:k<((List.range 5).map fun i:Nat=>C5 ((i:Int)+1)).length:=hk;have e:(oA 5)[k]=C5 (((k:Nat):Int)+1):=by
  show ((List.range 5).map fun i:Nat=>C5 ((i:Int)+1))[k]=_;rw [List.getElem_map,List.getElem_range]
 have hk5:k<5:=by have:=Bu 5;omega
 have key:∀x:bY,x=C5 (((k:Nat):Int)+1)→lI 0 x∧x.1=((k+1:Nat):Int):=fun x hx=>by
  subst hx;exact ⟨⟨YK k hk5,Nat.zero_le _,Nat.zero_le _,fun e he=>by cases he⟩,by show ((k:Nat):Int)+1=_;omega⟩
 exact key _ e
theorem C7 {rs:O5} (h:I6 rs):jV 0 (de rs):=
 {
  rings:=⟨fun r hr=>by
   obtain ⟨k,hk,rfl⟩:=List.mem_iff_getElem.1 hr;exact LI (h.each k hk).2.1,by show rs.length≤9;have:=h.GK;omega⟩
  Am:=Bu 5
  Gs:=YL
  lets:=fun x hx=>by cases hx
  GK:=by show 0≤_;omega
  num:=Nat.zero_le _
  nums:=fun e he=>by cases he }
theorem EE {rs:O5} (h:I6 rs):ph rs=some ((de rs).1,(de rs).2.1,(de rs).2.2.1,(de rs).2.2.2.1,true,()):=by
 have hq:=C7 h;have hw:rs.length+wl Bo rs≤1048576:=YJ hq.rings.1 hq.rings.2;unfold ph;delta aA;simp only [O9 h,Bt rs hw,Option.bind_some,Bool.not_true,cond_false,Ux rs,bZ];rfl
theorem UF {n:Nat} {w:mj} (h:jV n w) (hn:n≤99):mc w.1 w.2.1 w.2.2.1 w.2.2.2.1=some (w.1,w.2.1,w.2.2.1,w.2.2.2.1,()):=by
 have hf:=h.GK;have h5:=h.Am;have asW:=h.num;have c1:=Bt w.1 (YJ h.rings.1 h.rings.2);have l2:=ck (round:=fu) (e:=.inl (w.2.2.1,())) w.2.2.1.length (fun k=>(w.2.2.1,w.2.2.1.take k,((k:Nat):Int),())) (by
  simp only [fu,mb,aw,aT,aA,bt,aN,cond_false,List.take_length]) (fun k hk=>by
  have hx:=h.lets _ (List.getElem_mem hk);have e1:=(mf (w.2.2.1[k]).2.2.2.2.2.2.2.1 (w.2.2.1[k]).2.2.2.2.2.2.2.2.1 (w.2.2.1[k]).2.2.2.2.2.2.2.2.2.1 (w.2.2.1[k]).2.2.2.2.2.2.2.2.2.2.1 (w.2.2.1[k]).2.2.2.2.2.2.2.2.2.2.2.1 (w.2.2.1[k]).2.2.2.2.2.2.2.2.2.2.2.2.1 (Nat.le_trans hx.Lx (by decide))).1;have e2:=(jn ((w.2.2.1[k]).2.2.2.2.2.2.2.2.2.2.2.2.2.1,(w.2.2.1[k]).2.2.2.2.2.2.2.2.2.2.2.2.2.2.1,(w.2.2.1[k]).2.2.2.2.2.2.2.2.2.2.2.2.2.2.2.1,(w.2.2.1[k]).2.2.2.2.2.2.2.2.2.2.2.2.2.2.2.2.1,()) (Nat.le_trans hx.bun (by decide))).1;simp only [fu,mb,aw,aT,aA,bt,aF hk,ax,cond_true,aG,List.getElem?_eq_getElem hk,Option.bind_some,e1];rw [e2];simp only [Option.bind_some,List.length_take,aS (show (min k w.2.2.1.length+1)*176≤lim by unfold lim;omega),cond_true,aM (show k<4611686018427387904 by omega)];rw [List.take_succ_eq_append_getElem hk])
 have l2:aJ fu (w.2.2.1,[],(0:Int),())=_:=l2;have c2:fB w.2.2.1=some (w.2.2.1,()):=by
  unfold fB;rw [l2];rfl
 have hev:=IM bu 70 w.2.2.2.1 (fun e he=>by
  obtain ⟨e1,e2,e3⟩:=h.nums e he;have e4:bu e=(e.2.2.1.length+wl jR e.2.2.1)+ByteArray.size e.2.2.2.2.2.2.1+(e.2.2.2.2.2.2.2.1.length+wl jR e.2.2.2.2.2.2.2.1):=rfl;have e5:wl jR e.2.2.1=0:=nb jR (fun _=>rfl) _;have e6:wl jR e.2.2.2.2.2.2.2.1=0:=nb jR (fun _=>rfl) _;omega)
 have c3:=tQ w.2.2.2.1 (by omega);have l4:=ck (round:=iZ) (e:=.inl ([],[],[],[],w.1,w.2.1,w.2.2.1,w.2.2.2.1,())) w.2.1.length (fun k=>(w.1,w.2.1,w.2.2.1,w.2.2.2.1,[],[],[],[],w.1,w.2.1.take k,w.2.2.1,w.2.2.2.1,((k:Nat):Int),())) (by
  simp only [iZ,gC,tH,az,bA,aN,cond_false,List.take_length]) (fun k hk=>by
  have e1:=(uQ w.2.1[k] ((h.Gs k hk).1.small (by omega))).1;simp only [iZ,gC,tH,az,bA,aF hk,ax,cond_true,aG,List.getElem?_eq_getElem hk,Option.bind_some];rw [e1];simp only [Option.bind_some,List.length_take,aS (show (min k w.2.1.length+1)*320≤lim by unfold lim;omega),cond_true,aM (show k<4611686018427387904 by omega)];rw [List.take_succ_eq_append_getElem hk])
 have l4:aJ iZ (w.1,w.2.1,w.2.2.1,w.2.2.2.1,[],[],[],[],w.1,[],w.2.2.1,w.2.2.2.1,(0:Int),())=_:=l4;unfold mc;simp only [c1,c2,c3,Option.bind_some,l4,bZ]
theorem Rb {e:GM} (h:FG e):wZ e.1 e.2.1 e.2.2.1 e.2.2.2.1 e.2.2.2.2.1=some (true,()):=by
 unfold wZ;simp only [mE,ak h.kind.1,ak h.kind.2,ak h.id.1,ak h.id.2,Bool.and_self,Option.bind_some,Bool.not_true,cond_false,aq (show ¬e.2.2.1<0 by have:=h.at_;omega)]
 by_cases h1:e.1=1
 ·obtain ⟨⟨a1,a2⟩,a3⟩:=h.say h1;simp only [ak h1,ak a1,ak a2,Bool.and_self,cond_true,ak (show ((ByteArray.size e.2.2.2.2.1:Nat):Int)≤60 by omega)]
 ·obtain ⟨a1,a2⟩:=h.no h1;simp only [aq h1,ak a1,a2,cond_true,cond_false];show some (tW ByteArray.empty ByteArray.empty,())=_;rw [HO]
theorem YM (code:List (Int×Unit)) (a s:Int) (d:cn code a) (hc:code.length≤1048576):∃(rs:O5) (ds:List GM) (a' s':Int),uH code a s code=some (rs,ds,code,a',s',())∧I6 rs∧ds.length≤89∧(∀e∈ds,FG e)∧cn code a':=by
 obtain ⟨rs,a1,s1,e1,hv,d1⟩:=MY code a s d;obtain ⟨n,e2,hn⟩:=YI code hc;obtain ⟨e,he,a',s',ds,rfl,q1,q2,d'⟩:=dt (round:=kg) (x:=(code,a1,s1,code,[],[],rs,[],(de rs).1,(de rs).2.1,(de rs).2.2.1,(de rs).2.2.2.1,((0:Nat):Int),())) n
  (fun k x=>∃(a s:Int) (ds:List GM) (w:mj),x=(code,a,s,code,[],[],rs,ds,w.1,w.2.1,w.2.2.1,w.2.2.2.1,((k:Nat):Int),())∧jV k w∧ds.length=k∧(∀e∈ds,FG e)∧cn code a)
  (fun e=>∃(a s:Int) (ds:List GM),e=.inl (code,a,s,[],[],rs,ds,())∧ds.length=n∧(∀e∈ds,FG e)∧cn code a) (by
   rintro x ⟨a,s,ds,w,rfl,hw,q1,q2,d⟩
   exact ⟨_,by simp only [kg,gC,tG,aw,aA,e2,Option.bind_some,aN,cond_false],a,s,ds,rfl,q1,q2,d⟩) (by
   rintro k x hk ⟨a,s,ds,w,rfl,hw,q1,q2,d⟩
   obtain ⟨e,a1,s1,e3,he,d1⟩:=YH code a s d hw (by omega);have hb:Nat.ble ((ds.length+1)*48) lim=true:=aS (by rw [q1];unfold lim;omega);have Xa:IntKind.i64.wrap (((k:Nat):Int)+1)=((k+1:Nat):Int):=aM (show k<4611686018427387904 by omega);simp only [kg,gC,tG,aw,aA,e2,Option.bind_some,aF hk,cond_true,e3]
   by_cases k3:k<3
   ·have hm:FG (7,((k+1:Nat):Int),0,0,ByteArray.empty,()):=⟨⟨show (1:Int)≤7 by decide,show (7:Int)≤9 by decide⟩,⟨by show (1:Int)≤((k+1:Nat):Int);omega,by show ((k+1:Nat):Int)≤5;omega⟩,Int.le_refl _,fun h=>(by have h:(7:Int)=1:=h;omega),fun _=>⟨rfl,rfl⟩⟩;obtain ⟨b,w',e4,hw'⟩:=I9 hw (by omega) hm;have e4:pN w.1 w.2.1 w.2.2.1 w.2.2.2.1 7 ((k+1:Nat):Int) 0 0 ByteArray.empty=_:=e4;simp only [ak (show ((k:Nat):Int)<3 by omega),cond_true,Xa,e4,Option.bind_some,hb];refine .inr ⟨_,rfl,a1,s1,ds++[(7,((k+1:Nat):Int),0,0,ByteArray.empty,())],w',rfl,hw',by rw [List.length_append,q1];rfl,fun x hx => ?_,d1⟩;rcases List.mem_append.1 hx with hx | hx
    ·exact q2 x hx
    ·rw [List.mem_singleton] at hx;subst hx;exact hm
   ·obtain ⟨b,w',e4,hw'⟩:=I9 hw (by omega) he;simp only [aq (show ¬((k:Nat):Int)<3 by omega),cond_false,Xa,e4,Option.bind_some,hb,cond_true];refine .inr ⟨_,rfl,a1,s1,ds++[e],w',rfl,hw',by rw [List.length_append,q1];rfl,fun x hx => ?_,d1⟩;rcases List.mem_append.1 hx with hx | hx
    ·exact q2 x hx
    ·rw [List.mem_singleton] at hx;subst hx;exact he) ⟨a1,s1,[],_,rfl,C7 hv,rfl,fun e he=>(by cases he),d1⟩
 have he:aJ kg (code,a1,s1,code,[],[],rs,[],(de rs).1,(de rs).2.1,(de rs).2.2.1,(de rs).2.2.2.1,(0:Int),())=_:=he;refine ⟨rs,ds,a',s',?_,hv,by omega,q2,d'⟩;unfold uH;delta aA;simp only [e1,Option.bind_some,EE hv,he,bZ]
theorem aat {rs:O5} (hv:I6 rs) (ds:List GM) (hl:ds.length≤89) (he:∀e∈ds,FG e):∃(w:mj) (xd:dG),sy rs ds=some (w.1,w.2.1,w.2.2.1,w.2.2.2.1,xd,true,())∧jV ds.length w:=by
 have l1:=ck (round:=jz) (e:=.inl (ds,[],[],[],[],(de rs).1,(de rs).2.1,(de rs).2.2.1,(de rs).2.2.2.1,true,())) ds.length (fun k=>(ds,[],[],[],[],(de rs).1,(de rs).2.1,(de rs).2.2.1,(de rs).2.2.2.1,true,((k:Nat):Int),())) (by
  simp only [jz,bC,rT,aw,aN,cond_false]) (fun k hk=>by
  simp only [jz,bC,rT,aw,aF hk,cond_true,ak (show ((List.length ds:Nat):Int)≤90 by omega),ax,aG,List.getElem?_eq_getElem hk,Option.bind_some,Rb (he _ (List.getElem_mem hk)),aM (show k<4611686018427387904 by omega)])
 have l1:aJ jz (ds,[],[],[],[],(de rs).1,(de rs).2.1,(de rs).2.2.1,(de rs).2.2.2.1,true,(0:Int),())=_:=l1;obtain ⟨e,l2,w,xd,rfl,hw⟩:=dt (round:=jA) (x:=(ds,[],[],[],[],(de rs).1,(de rs).2.1,(de rs).2.2.1,(de rs).2.2.2.1,[],((0:Nat):Int),())) ds.length
  (fun k x=>∃(w:mj) (xd:dG),x=(ds,[],[],[],[],w.1,w.2.1,w.2.2.1,w.2.2.2.1,xd,((k:Nat):Int),())∧jV k w∧xd.length=k)
  (fun e=>∃(w:mj) (xd:dG),e=.inl ([],[],[],[],w.1,w.2.1,w.2.2.1,w.2.2.2.1,xd,())∧jV ds.length w) (by
   rintro x ⟨w,xd,rfl,hw,q⟩
   exact ⟨_,by simp only [jA,bC,rV,aw,aA,aN,cond_false],w,xd,rfl,hw⟩) (by
   rintro k x hk ⟨w,xd,rfl,hw,q⟩
   obtain ⟨b,w',e1,hw'⟩:=I9 hw (by omega) (he _ (List.getElem_mem hk));refine .inr ⟨(ds,[],[],[],[],w'.1,w'.2.1,w'.2.2.1,w'.2.2.2.1,xd++[(b,())],((k+1:Nat):Int),()),?_,w',_,rfl,hw',by rw [List.length_append,q];rfl⟩;simp only [jA,bC,rV,aw,aA,aF hk,cond_true,ax,aG,List.getElem?_eq_getElem hk,Option.bind_some,e1,aS (show (xd.length+1)*8≤lim by rw [q];unfold lim;omega),aM (show k<4611686018427387904 by omega)]) ⟨_,[],rfl,C7 hv,rfl⟩
 have l2:aJ jA (ds,[],[],[],[],(de rs).1,(de rs).2.1,(de rs).2.2.1,(de rs).2.2.2.1,[],(0:Int),())=_:=l2;refine ⟨w,xd,?_,hw⟩;unfold sy;delta aw aA eC;simp only [EE hv,Option.bind_some,l1,bZ,Bool.not_true,cond_false,l2,UF hw (by omega)]
theorem UG (code:List (Int×Unit)) (a s:Int) (d:cn code a) (hc:code.length≤1048576):∃(w:mj) (a' s':Int) (n:Nat),pn code a s code=some (w.1,w.2.1,w.2.2.1,w.2.2.2.1,code,a',s',())∧jV n w∧n≤89∧cn code a':=by
 obtain ⟨rs,ds,a',s',e1,hv,hl,he,d'⟩:=YM code a s d hc;obtain ⟨w,xd,e2,hw⟩:=aat hv ds hl he;refine ⟨w,a',s',ds.length,?_,hw,hl,d'⟩;unfold pn;delta aA;simp only [e1,Option.bind_some,e2]
end Go.TM
set_option linter.unusedSimpArgs false
set_option linter.unusedVariables false
namespace Go.TM
open Go
def Pb {B:Type} (code:List (Int×Unit)) (c0 c1 c2 c3 c4:Int):Sum (List (Int×Unit)×Int×Int×Int×Int×Int×Int×Int×(List (Int×Unit))×Int×Int×Int×Int×Int×(List (Int×Unit))×Unit) B→Prop
 |.inl y=>y.1=code∧cn code y.2.1∧y.2.2.2.2.2.2.2.2.2=(c0,c1,c2,c3,c4,y.2.2.2.2.2.2.2.2.2.2.2.2.2.2.1,())∧y.2.2.2.2.2.2.2.2.2.2.2.2.2.2.1.length≤12
 |.inr _=>False
theorem YN (code:List (Int×Unit)) (at_ jY c0 c1 c2 c3 c4:Int) (h:cn code at_) (h0:0≤c2) (h1:c2<12) :
  ∃e,aJ fv (code,at_,jY,(0:Int),(0:Int),(0:Int),(0:Int),(0:Int),[],c0,c1,c2,c3,c4,[],(1:Int),())=some e∧Pb code c0 c1 c2 c3 c4 e:=by
 obtain ⟨m,rfl⟩:=Int.eq_ofNat_of_zero_le h0;refine dt (round:=fv) m (fun k x=>∃wK s' l,x=(code,wK,s',(0:Int),(0:Int),(0:Int),(0:Int),(0:Int),[],c0,c1,((m:Nat):Int),c3,c4,l,((k+1:Nat):Int),())∧cn code wK∧l.length≤k) (Pb code c0 c1 ((m:Nat):Int) c3 c4) ?_ ?_ ⟨at_,jY,[],rfl,h,Nat.le_refl _⟩
 ·rintro x ⟨wK,s',l,rfl,hd,hl⟩
  refine ⟨.inl (code,wK,s',(0:Int),(0:Int),(0:Int),(0:Int),(0:Int),[],c0,c1,((m:Nat):Int),c3,c4,l,()),?_,rfl,hd,rfl,(by show l.length≤12;omega)⟩;simp only [fv,ba,rW,aq (show ¬((m+1:Nat):Int)≤((m:Nat):Int) by omega),cond_false]
 ·rintro k x hk ⟨wK,s',l,rfl,hd,hl⟩
  obtain ⟨b,a1,s1,e1,d1⟩:=q7 code wK s' 5 hd (by omega);simp only [fv,ba,rW,ak (show ((k+1:Nat):Int)≤((m:Nat):Int) by omega),cond_true,e1,Option.bind_some,aM (show k+1<4611686018427387904 by omega)]
  cases b
  ·exact .inr ⟨_,rfl,a1,s1,l,rfl,d1,by omega⟩
  ·rw [aS (show (l.length+1)*8≤lim by unfold lim;omega)];exact .inr ⟨_,rfl,a1,s1,l++[(((k+1:Nat):Int),())],rfl,d1,by simp;omega⟩
def Pc (code:List (Int×Unit)) (o:Option (Int×Int×Int×Int×Int×(List (Int×Unit))×(List (Int×Unit))×Int×Int×Unit)) (n:Nat):Prop:=
 ∃t0 t1 t2 t3 t4 xs wK s',o=some (t0,t1,t2,t3,t4,xs,code,wK,s',())∧cn code wK∧xs.length≤n
theorem Rc (code:List (Int×Unit)) (at_ jY:Int) (h:cn code at_):Pc code (po code at_ jY) 12:=by
 obtain ⟨v1,a1,s1,e1,p1,q1,d1⟩:=dN code at_ jY 3 h (by omega);obtain ⟨v2,a2,s2,e2,p2,q2,d2⟩:=dN code a1 s1 9 d1 (by omega);obtain ⟨v3,a3,s3,e3,p3,q3,d3⟩:=dN code a2 s2 12 d2 (by omega);obtain ⟨v4,a4,s4,e4,p4,q4,d4⟩:=dN code a3 s3 (v3+1) d3 (by omega);unfold po;delta bt;simp only [e1,e2,e3,Option.bind_some,dq (show -9223372036854775808≤v3+1 by omega) (show v3+1<9223372036854775808 by omega),e4,dq (show -9223372036854775808≤1+v1 by omega) (show 1+v1<9223372036854775808 by omega),dq (show -9223372036854775808≤1+v2 by omega) (show 1+v2<9223372036854775808 by omega)];have done:∀(c4 a s:Int),cn code a→Pc code (bZ (aJ fv (code,a,s,(0:Int),(0:Int),(0:Int),(0:Int),(0:Int),[],1+v1,1+v2,v3,v4,c4,[],(1:Int),())) (fun y6=>
   some (y6.2.2.2.2.2.2.2.2.2.1,y6.2.2.2.2.2.2.2.2.2.2.1,y6.2.2.2.2.2.2.2.2.2.2.2.1,y6.2.2.2.2.2.2.2.2.2.2.2.2.1,y6.2.2.2.2.2.2.2.2.2.2.2.2.2.1,y6.2.2.2.2.2.2.2.2.2.2.2.2.2.2.1,y6.1,y6.2.1,y6.2.2.1,())) (fun y7=>
   none)) 12:=by
  intro c4 a s hd;obtain ⟨e,he,hq⟩:=YN code a s (1+v1) (1+v2) v3 v4 c4 hd p3 q3;rw [he]
  cases e with
  |inr e=>exact hq.elim
  |inl e=>
   obtain ⟨k1,k2,k3,k4⟩:=hq;obtain ⟨y1,y2,y3,y4,y5,y6,y7,y8,y9,wW⟩:=e;simp only at k1 k2 k3 k4;subst k1;exact ⟨_,_,_,_,_,_,_,_,rfl,k2,k4⟩
 cases decide (v4<v3)
 ·obtain ⟨b,a5,s5,e5,d5⟩:=q7 code a4 s4 6 d4 (by omega);simp only [e5,Option.bind_some,cond_false]
  cases b
  ·exact done _ _ _ d5
  ·obtain ⟨v6,a6,s6,e6,p6,q6,d6⟩:=dN code a5 s5 3 d5 (by omega);simp only [e6,Option.bind_some,cond_true];exact done _ _ _ d6
 ·obtain ⟨v6,a6,s6,e6,p6,q6,d6⟩:=dN code a4 s4 3 d4 (by omega);simp only [e6,Option.bind_some,cond_true];exact done _ _ _ d6
end Go.TM
set_option linter.unusedSimpArgs false
set_option linter.unusedVariables false
namespace Go.TM
open Go
theorem UH (x:Int):∃y,qO x=some (y,()):=by
 unfold qO
 cases decide (x<(10:Int))
 ·exact ⟨_,rfl⟩
 ·exact ⟨_,rfl⟩
theorem Re (n:Int) (h0:0<n) (h1:n<10):∃s,uI n=some (s,())∧ByteArray.size s≤1:=by
 have m1:Int.tmod n 10=n:=Int.tmod_eq_of_lt (by omega) h1;have m2:Int.tdiv n 10=0:=Int.tdiv_eq_zero_of_lt (by omega) h1;obtain ⟨y,hy⟩:=UH n;have oN:ByteArray.size (bytesOf [(y,())])=1:=Ee [(y,())];have QV:Nat.ble (ByteArray.size (bytesOf [(y,())])+0) lim=true:=by rw [oN];exact aS (by unfold lim;omega)
 have r1:kj (n,decide (n<(0:Int)),(ByteArray.mk #[]),())=some (.inl ((0:Int),false,(bytesOf [(y,())])++(ByteArray.mk #[]),())):=by
  have e1:ByteArray.size (ByteArray.mk #[])=0:=rfl;simp only [kj,tJ,aq (show ¬n=0 by omega),Bool.not_false,cond_true,m1,m2,aq (show ¬n<0 by omega),cond_false,hy,Option.bind_some,e1,QV,dq (show -9223372036854775808≤(0:Int) by omega) (by omega)]
 have r2:kj ((0:Int),false,(bytesOf [(y,())])++(ByteArray.mk #[]),())=some (.inr (.inl (false,(bytesOf [(y,())])++(ByteArray.mk #[]),()))):=by
  simp only [kj,tJ,decide_true,Bool.not_true,cond_false]
 unfold uI;rw [aq (show ¬n=0 by omega),jH,r1];simp only [cond_false];rw [jH,r2];refine ⟨_,rfl,?_⟩;rw [ByteArray.size_append,oN]
 decide
def Jd (l:aU):Prop:=l.length≤10∧∀x∈l,ByteArray.size x.2.2.2.1≤61
theorem Jd.w {l:aU} (h:Jd l):l.length+wl dF l≤620:=by
 have:=Lr dF 61 l h.2;have:=h.1;omega
theorem Jd.nil:Jd []:=⟨Nat.zero_le _,fun x h=>by cases h⟩
theorem UI (code:List (Int×Unit)) (at_ jY:Int) (h:cn code at_) (c:Int) (xs:List (Int×Unit)) (d:Int) (hc:c≤10):∃b0 b1 b2 l wK s',nJ code at_ jY c xs d=some (b0,b1,b2,l,code,wK,s',())∧Jd l∧cn code wK:=by
 unfold nJ;delta RI aA
 by_cases h1:1<c
 ·obtain ⟨b,a1,s1,e1,d1⟩:=q7 code at_ jY 4 h (by omega);simp only [ak h1,cond_true,e1,Option.bind_some]
  cases b
  ·have hw:IntKind.i64.wrap (c-(1:Int))=c-1:=dq (by omega) (by omega);obtain ⟨v,a2,s2,e2,v0,v1,d2⟩:=dN code a1 s1 (c-1) d1 (by omega);simp only [Bool.not_false,cond_true,hw,e2,Option.bind_some];obtain ⟨e,he,hq⟩:=dt (round:=iJ) (x:=(code,a2,s2,(0:Int),(0:Int),(0:Int),[],d,c,IntKind.i64.wrap ((1:Int)+v),[],[],((0+1:Nat):Int),())) 6
    (fun k x=>∃l:aU,x=(code,a2,s2,(0:Int),(0:Int),(0:Int),[],d,c,IntKind.i64.wrap ((1:Int)+v),[],l,((k+1:Nat):Int),())∧l.length≤k∧∀x∈l,ByteArray.size x.2.2.2.1≤61)
    (fun e=>∃l:aU,e=.inl (code,a2,s2,(0:Int),(0:Int),(0:Int),[],d,c,IntKind.i64.wrap ((1:Int)+v),[],l,())∧l.length≤6∧∀x∈l,ByteArray.size x.2.2.2.1≤61) (by
     rintro x ⟨l,rfl,q1,q2⟩
     exact ⟨_,by simp only [iJ,gC,qP,aq (show ¬((6+1:Nat):Int)≤6 by omega),cond_false],l,rfl,q1,q2⟩) (by
     rintro k x hk ⟨l,rfl,q1,q2⟩
     obtain ⟨t,e3,ht⟩:=Re ((k+1:Nat):Int) (by omega) (by omega);refine .inr ⟨_,?_,l++[(((k+1:Nat):Int),IntKind.i64.wrap ((1:Int)+Int.tmod ((k+1:Nat):Int) 3),IntKind.i64.wrap ((1:Int)+Int.tmod ((k+1:Nat):Int) 2),t,())],rfl,by simp;omega,fun x hx => ?_⟩
     ·simp only [iJ,gC,qP,ak (show ((k+1:Nat):Int)≤6 by omega),cond_true,e3,Option.bind_some,aS (show (l.length+1)*40≤lim by unfold lim;omega),aM (show k+1<4611686018427387904 by omega)]
     ·rcases List.mem_append.1 hx with hx | hx
      ·exact q2 x hx
      ·rw [List.mem_singleton] at hx;subst hx;show t.size≤61;omega) ⟨[],rfl,Nat.le_refl _,fun x hx=>by cases hx⟩
   have he:aJ iJ (code,a2,s2,(0:Int),(0:Int),(0:Int),[],d,c,IntKind.i64.wrap ((1:Int)+v),[],[],(1:Int),())=some e:=he;obtain ⟨l,rfl,l1,l2⟩:=hq;rw [he];simp only [jI];generalize IntKind.i64.wrap ((1:Int)+v)=old;obtain ⟨e,he,hq⟩:=dt (round:=gx) (x:=(code,a2,s2,(0:Int),(0:Int),(0:Int),[],d,c,old,[],l,((0:Nat):Int),())) l.length
    (fun k x=>∃(a s:Int) (m:aU),x=(code,a,s,(0:Int),(0:Int),(0:Int),[],d,c,old,m,l,((k:Nat):Int),())∧m.length≤k∧(∀x∈m,ByteArray.size x.2.2.2.1≤61)∧cn code a)
    (fun e=>∃(a s:Int) (m:aU),e=.inl (code,a,s,(0:Int),(0:Int),(0:Int),[],d,c,old,m,())∧Jd m∧cn code a) (by
     rintro x ⟨a,s,m,rfl,q1,q2,q3⟩
     exact ⟨_,by simp only [gx,gC,nj,aA,aN,cond_false],a,s,m,rfl,⟨by omega,q2⟩,q3⟩) (by
     rintro k x hk ⟨a,s,m,rfl,q1,q2,q3⟩
     obtain ⟨b,a3,s3,e3,d3⟩:=q7 code a s 3 q3 (by omega)
     cases b
     ·refine .inr ⟨_,?_,a3,s3,m++[l[k]],rfl,by simp;omega,fun x hx => ?_,d3⟩
      ·simp only [gx,gC,nj,aA,aF hk,cond_true,e3,Option.bind_some,Bool.not_false,ax,aG,fZ hk,List.getElem?_eq_getElem hk,aS (show (m.length+1)*40≤lim by unfold lim;omega),aM (show k<4611686018427387904 by omega)]
      ·rcases List.mem_append.1 hx with hx | hx
       ·exact q2 x hx
       ·rw [List.mem_singleton] at hx;subst hx;exact l2 _ (List.getElem_mem hk)
     ·refine .inr ⟨_,?_,a3,s3,m,rfl,by omega,q2,d3⟩;simp only [gx,gC,nj,aA,aF hk,cond_true,e3,Option.bind_some,Bool.not_true,cond_false,aM (show k<4611686018427387904 by omega)]) ⟨a2,s2,[],rfl,Nat.le_refl _,(fun x hx=>by cases hx),d2⟩
   have he:aJ gx (code,a2,s2,(0:Int),(0:Int),(0:Int),[],d,c,old,[],l,(0:Int),())=some e:=he;obtain ⟨a,s,m,rfl,m1,m2⟩:=hq;rw [he];exact ⟨_,_,_,_,_,_,rfl,m1,m2⟩
  ·exact ⟨_,_,_,_,_,_,rfl,Jd.nil,d1⟩
 ·rw [aq h1];exact ⟨_,_,_,_,_,_,rfl,Jd.nil,h⟩
theorem M1 (code:List (Int×Unit)) (at_ jY:Int) (h:cn code at_):∃b0 b1 b2 l wK s',fD code at_ jY=some (b0,b1,b2,l,code,wK,s',())∧Jd l∧cn code wK:=by
 obtain ⟨c,xs,a1,s1,e1,r1,_,_,d1⟩:=Q4 code at_ jY h;obtain ⟨v,a2,s2,e2,v0,v1,d2⟩:=dN code a1 s1 4 d1 (by omega);have h0:0<xs.length:=r1.some_;have hw:IntKind.i64.wrap ((1:Int)+v)=1+v:=dq (by omega) (by omega);obtain ⟨b0,b1,b2,l,a3,s3,e3,l3,d3⟩:=UI code a2 s2 d2 (1+v) xs xs[0].1 (by omega);obtain ⟨w,a4,s4,e4,_,_,d4⟩:=dN code a3 s3 20 d3 (by omega);unfold fD;delta aA;simp only [e1,e2,Option.bind_some,fZ h0,cond_true,List.getElem?_eq_getElem h0,hw,e3,e4]
 cases decide (w=0)
 case true=>
  obtain ⟨x,a5,s5,e5,_,d5⟩:=zS code a4 s4 [((0:Int),()),((5:Int),()),((6:Int),())] d4 (by simp);simp only [e5,Option.bind_some,cond_true];exact ⟨_,_,_,_,_,_,rfl,l3,d5⟩
 cases decide (w=1)
 case true=>
  obtain ⟨x,a5,s5,e5,_,d5⟩:=zS code a4 s4 [((0:Int),()),((9:Int),()),((10:Int),())] d4 (by simp);simp only [e5,Option.bind_some,cond_true];exact ⟨_,_,_,_,_,_,rfl,l3,d5⟩
 cases decide (w=2)
 case true=>
  obtain ⟨x,a5,s5,e5,_,d5⟩:=zS code a4 s4 [((-1:Int),()),((0:Int),()),(b1,())] d4 (by simp);simp only [e5,Option.bind_some,cond_true];exact ⟨_,_,_,_,_,_,rfl,l3,d5⟩
 cases decide (w=3)
 case true=>
  obtain ⟨m,a5,s5,e5,m5,d5,hx⟩:=O3 code a4 s4 d4;simp only [e5,Option.bind_some,cond_true];exact ⟨_,_,_,_,_,_,rfl,⟨m5,hx⟩,d5⟩
 exact ⟨_,_,_,_,_,_,rfl,l3,d4⟩
def Pd (l:List ea) (n:Nat):Prop:=l.length≤n∧∀b∈l,Jd b.2.2.2.1
theorem Pd.snoc {l:List ea} {n:Nat} (h:Pd l n) {b:ea} (hb:Jd b.2.2.2.1):Pd (l++[b]) (n+1):=
 ⟨by have:=h.1;simp;omega,fun x hx=>by
  rcases List.mem_append.1 hx with hx | hx
  ·exact h.2 x hx
  ·rw [List.mem_singleton] at hx;subst hx;exact hb⟩
theorem Pd.up {l:List ea} {n m:Nat} (h:Pd l n) (hm:n≤m):Pd l m:=⟨Nat.le_trans h.1 hm,h.2⟩
theorem Pd.w {l:List ea} {n:Nat} (h:Pd l n):l.length+wl ed l≤621*n:=by
 have:=Lr ed 620 l (fun b hb=>(h.2 b hb).w);have:=h.1;have:=Nat.mul_le_mul_left 620 this;omega
end Go.TM
