/- Move, in the program and in the reference, of any daemon that is not too large. -/
import Derived.Test.YtcjjcfjlnhoaoaaGreatMHelp
set_option linter.unusedSimpArgs false
set_option linter.unusedVariables false
namespace Go.TM
open Go
theorem v7 {d:js} (q:Ho d):d.2.2.2.2.1.length≤5∧zB (bL d)≤5000:=by
 rcases q.Pn with g | g
 ·have g1:d.2.2.2.2.1=[]:=g.2.2.1;have g2:d.q.1=[]:=g.2.2.2.1;have g3:d.q.2.1=[]:=g.2.2.2.2.1;have g4:d.q.2.2.1=[]:=g.q.1;have g5:d.q.q.q.2.2.1=[]:=g.q.q.2.2.2.2.2;refine ⟨by rw [g1];exact Nat.zero_le _,?_⟩;show (List.length d.2.2.2.2.1+wl dk d.2.2.2.2.1)+(List.length d.q.1+wl bJ d.q.1)+(List.length d.q.2.1+wl dk d.q.2.1)+(List.length d.q.2.2.1+wl sO d.q.2.2.1)+(List.length d.q.q.q.2.2.1+wl dk d.q.q.q.2.2.1)≤5000;rw [g1,g2,g3,g4,g5]
  decide
 ·exact ⟨g.1.ring.2.1.2,g.1.small⟩
def pW (d:js) (r:Int):gj:=(d.1,r,d.q.q.q.2.2.2.2.1,d.q.1,())
def mh (d:js) (c:Int) (ms:gL):js:=((bL d).1,(bL d).2.1,(bL d).2.2.1,(bL d).2.2.2.1,(bL d).2.2.2.2.1,(bL d).q.1,(bL d).q.2.1,(bL d).q.2.2.1,(bL d).q.2.2.2.1,(bL d).q.2.2.2.2.1,(bL d).q.q.1,(bL d).q.q.2.1,(bL d).q.q.2.2.1,(bL d).q.q.2.2.2.1,(bL d).q.q.2.2.2.2.1,(bL d).q.q.q.1,c,d.q.q.q.2.2.2.2.1,c,ms,[pW d c],d.q.q.q.q.2.2.2.1,()) |> fun x=>(d.1,d.2.1,x)
noncomputable def eJ (d:js) (c:Int) (ms:gL):js:=bif ss c ms [pW d c] then fD (mh d c ms) else mh d c ms
noncomputable def CE (d:js) (c:Int) (ms:gL):Bool:=AO d&&(!d.2.1&&(tw c ms&&(decide ((d.1,())∈ms) && !decide (c≤d.q.q.q.2.2.2.1))))
def rU (d:js) (ms:gL) (b:gj):List gj:=(ms.filter fun m => !decide (m.1=d.1)).map fun _=>b
theorem Jj (d:js) (ms:gL) (b:gj) {k:Nat} (hk:k<ms.length):rU d (ms.take (k+1)) b=rU d (ms.take k) b++(bif !decide (ms[k].1=d.1) then [b] else []):=by
 unfold rU;rw [List.take_succ_eq_append_getElem hk,List.filter_append,List.map_append,List.filter_cons,List.filter_nil]
 cases decide (ms[k].1=d.1)<;>rfl
theorem Ed (d:js) (ms:gL) (b:gj):(rU d ms b).length≤ms.length:=by
 unfold rU;rw [List.length_map];exact List.length_filter_le _ _
noncomputable def cZ (d:js) (c:Int) (ms:gL):js×List gj×Bool:=bif CE d c ms then (eJ d c ms,rU d ms (pW d c),true) else (Fy,[],false)
theorem FE {d:js} (q:Ho d) {c:Int} {ms:gL} (hr:wX c ms) (hc:d.q.q.q.2.2.2.1<c):CA (pW d c)∧kZ [pW d c]∧(d.q.1).length≤60∧wl bJ d.q.1≤3600:=by
 have hold:=q.old;have abb:=q.afU;have hit:gk d.q.1 (d.q.1).length∧(0<d.q.q.q.2.2.2.2.1∨(d.q.1).length=0):=by
  rcases q.Pn with g | g
  ·have g2:d.q.1=[]:=g.2.2.2.1;rw [g2];exact ⟨q7,.inr rfl⟩
  ·refine ⟨g.1.items,.inl ?_⟩;have h1:1≤d.2.2.2.1:=g.1.ring.1.1;omega
 obtain ⟨hl,hw⟩:=pV _ hit.1;exact ⟨⟨q.id,hr.1,⟨abb,by show d.q.q.q.2.2.2.2.1≤c-1;omega⟩,hit.1,hit.2⟩,kZ.more (xs:=[]) (by decide) (by show (d.q.1).length≤_;omega),hl,hw⟩
theorem CF (d:js) (c:Int) (ms:gL) (h:uE d≤1048576) (q:Ho d) (hr:wX c ms) (hm:(d.1,())∈ms) (hc:d.q.q.q.2.2.2.1<c):ek (eJ d c ms).1 (eJ d c ms).2.1 (eJ d c ms).2.2.1 (eJ d c ms).2.2.2.1 (eJ d c ms).2.2.2.2.1 (eJ d c ms).q.1 (eJ d c ms).q.2.1 (eJ d c ms).q.2.2.1 (eJ d c ms).q.2.2.2.1 (eJ d c ms).q.2.2.2.2.1 (eJ d c ms).q.q.1 (eJ d c ms).q.q.2.1 (eJ d c ms).q.q.2.2.1 (eJ d c ms).q.q.2.2.2.1 (eJ d c ms).q.q.2.2.2.2.1 (eJ d c ms).q.q.q.1 (eJ d c ms).q.q.q.2.1 (eJ d c ms).q.q.q.2.2.1 (eJ d c ms).q.q.q.2.2.2.1 (eJ d c ms).q.q.q.2.2.2.2.1 (eJ d c ms).q.q.q.q.1 (eJ d c ms).q.q.q.q.2.1 (eJ d c ms).q.q.q.q.2.2.1 (eJ d c ms).q.q.q.q.2.2.2.1=some (eJ d c ms)∧uE (eJ d c ms)≤4194304:=by
 obtain ⟨hP,hB,hi,hw⟩:=FE q hr hc;obtain ⟨h4,hmw⟩:=v7 q;have h0:=h;unfold uE at h0;have h5:=hr.2.1.2;have w0:∀l:gL,wl dk l=0:=fun l=>qF dk (fun _=>rfl) l
 have e1:bL (mh d c ms)=bL d:=rfl;have e2:aI (pW d c)=(d.q.1).length+wl bJ d.q.1:=rfl;unfold eJ
 cases ss c ms [pW d c]
 ·refine ⟨Hu (mh d c ms) (by rw [e1];omega) (by show ms.length≤_;omega) hB (by show d.q.q.q.q.2.2.2.1.length+wl ax d.q.q.q.q.2.2.2.1≤_;omega),?_⟩;have e:uE (mh d c ms)=(List.length d.2.2.2.2.1+wl dk d.2.2.2.2.1)+(List.length d.q.1+wl bJ d.q.1)+(List.length d.q.2.1+wl dk d.q.2.1)+(List.length d.q.2.2.1+wl sO d.q.2.2.1)+(List.length d.q.q.q.2.2.1+wl dk d.q.q.q.2.2.1)+(List.length ms+wl dk ms)+(List.length [pW d c]+wl aI [pW d c])+(List.length d.q.q.q.q.2.2.2.1+wl ax d.q.q.q.q.2.2.2.1):=rfl;show uE (mh d c ms)≤_;rw [e,mX,vL,e2,List.length_singleton,w0 ms];omega
 ·obtain ⟨s1,s2⟩:=FD (mh d c ms) h5 h4 hB (by show d.q.2.1.length≤_;omega) (by show d.q.2.2.1.length+wl sO d.q.2.2.1≤_;omega) (by show d.q.q.q.q.2.2.2.1.length+wl ax d.q.q.q.q.2.2.2.1≤_;omega);have afX:zB (bL (fD (mh d c ms)))≤1048576:=by
   have e:zB (bL (fD (mh d c ms)))=(List.length ms+wl dk ms)+0+(List.length d.q.2.1+wl dk d.q.2.1)+(List.length d.q.2.2.1+wl sO d.q.2.2.1)+0:=rfl;have e3:zB (bL d)=(List.length d.2.2.2.2.1+wl dk d.2.2.2.2.1)+(List.length d.q.1+wl bJ d.q.1)+(List.length d.q.2.1+wl dk d.q.2.1)+(List.length d.q.2.2.1+wl sO d.q.2.2.1)+(List.length d.q.q.q.2.2.1+wl dk d.q.q.q.2.2.1):=rfl;have e4:=w0 ms;omega
  have e5:uE (fD (mh d c ms))=zB (bL (fD (mh d c ms)))+0+0+((CD (fD (mh d c ms))).length+wl ax (CD (fD (mh d c ms)))):=rfl;refine ⟨Hu _ afX (Nat.zero_le _) ⟨Nat.zero_le _,fun x hx=>by cases hx⟩ (by show (CD (fD (mh d c ms))).length+wl ax (CD (fD (mh d c ms)))≤_;omega),?_⟩;show uE (fD (mh d c ms))≤_;rw [e5];omega
theorem Jk (d z o:js) (b:gj) (c:Int) (ms:gL) (hl:ms.length≤1048576) (hb:b.2.2.2.1.length≤1048576) :
  aG jb (d.1,d.2.1,d.2.2.1,d.2.2.2.1,d.2.2.2.2.1,d.q.1,d.q.2.1,d.q.2.2.1,d.q.2.2.2.1,d.q.2.2.2.2.1,d.q.q.1,d.q.q.2.1,d.q.q.2.2.1,d.q.q.2.2.2.1,d.q.q.2.2.2.2.1,d.q.q.q.1,d.q.q.q.2.1,d.q.q.q.2.2.1,d.q.q.q.2.2.2.1,d.q.q.q.2.2.2.2.1,d.q.q.q.q.1,d.q.q.q.q.2.1,d.q.q.q.q.2.2.1,d.q.q.q.q.2.2.2.1,c,ms,z.1,z.2.1,z.2.2.1,z.2.2.2.1,z.2.2.2.2.1,z.q.1,z.q.2.1,z.q.2.2.1,z.q.2.2.2.1,z.q.2.2.2.2.1,z.q.q.1,z.q.q.2.1,z.q.q.2.2.1,z.q.q.2.2.2.1,z.q.q.2.2.2.2.1,z.q.q.q.1,z.q.q.q.2.1,z.q.q.q.2.2.1,z.q.q.q.2.2.2.1,z.q.q.q.2.2.2.2.1,z.q.q.q.q.1,z.q.q.q.q.2.1,z.q.q.q.q.2.2.1,z.q.q.q.q.2.2.2.1,[],o.1,o.2.1,o.2.2.1,o.2.2.2.1,o.2.2.2.2.1,o.q.1,o.q.2.1,o.q.2.2.1,o.q.2.2.2.1,o.q.2.2.2.2.1,o.q.q.1,o.q.q.2.1,o.q.q.2.2.1,o.q.q.2.2.2.1,o.q.q.2.2.2.2.1,o.q.q.q.1,o.q.q.q.2.1,o.q.q.q.2.2.1,o.q.q.q.2.2.2.1,o.q.q.q.2.2.2.2.1,o.q.q.q.q.1,o.q.q.q.q.2.1,o.q.q.q.q.2.2.1,o.q.q.q.q.2.2.2.1,b.1,b.2.1,b.2.2.1,b.2.2.2.1,(0:Int),())=some (.inl (z.1,z.2.1,z.2.2.1,z.2.2.2.1,z.2.2.2.2.1,z.q.1,z.q.2.1,z.q.2.2.1,z.q.2.2.2.1,z.q.2.2.2.2.1,z.q.q.1,z.q.q.2.1,z.q.q.2.2.1,z.q.q.2.2.2.1,z.q.q.2.2.2.2.1,z.q.q.q.1,z.q.q.q.2.1,z.q.q.q.2.2.1,z.q.q.q.2.2.2.1,z.q.q.q.2.2.2.2.1,z.q.q.q.q.1,z.q.q.q.q.2.1,z.q.q.q.q.2.2.1,z.q.q.q.q.2.2.2.1,rU d ms b,o.1,o.2.1,o.2.2.1,o.2.2.2.1,o.2.2.2.2.1,o.q.1,o.q.2.1,o.q.2.2.1,o.q.2.2.2.1,o.q.2.2.2.2.1,o.q.q.1,o.q.q.2.1,o.q.q.2.2.1,o.q.q.2.2.2.1,o.q.q.2.2.2.2.1,o.q.q.q.1,o.q.q.q.2.1,o.q.q.q.2.2.1,o.q.q.q.2.2.2.1,o.q.q.q.2.2.2.2.1,o.q.q.q.q.1,o.q.q.q.q.2.1,o.q.q.q.q.2.2.1,o.q.q.q.q.2.2.2.1,())):=by
 have l1:=bT (round:=jb) (e:=.inl (z.1,z.2.1,z.2.2.1,z.2.2.2.1,z.2.2.2.2.1,z.q.1,z.q.2.1,z.q.2.2.1,z.q.2.2.2.1,z.q.2.2.2.2.1,z.q.q.1,z.q.q.2.1,z.q.q.2.2.1,z.q.q.2.2.2.1,z.q.q.2.2.2.2.1,z.q.q.q.1,z.q.q.q.2.1,z.q.q.q.2.2.1,z.q.q.q.2.2.2.1,z.q.q.q.2.2.2.2.1,z.q.q.q.q.1,z.q.q.q.q.2.1,z.q.q.q.q.2.2.1,z.q.q.q.q.2.2.2.1,rU d ms b,o.1,o.2.1,o.2.2.1,o.2.2.2.1,o.2.2.2.2.1,o.q.1,o.q.2.1,o.q.2.2.1,o.q.2.2.2.1,o.q.2.2.2.2.1,o.q.q.1,o.q.q.2.1,o.q.q.2.2.1,o.q.q.2.2.2.1,o.q.q.2.2.2.2.1,o.q.q.q.1,o.q.q.q.2.1,o.q.q.q.2.2.1,o.q.q.q.2.2.2.1,o.q.q.q.2.2.2.2.1,o.q.q.q.q.1,o.q.q.q.q.2.1,o.q.q.q.q.2.2.1,o.q.q.q.q.2.2.2.1,())) ms.length (fun k=>(d.1,d.2.1,d.2.2.1,d.2.2.2.1,d.2.2.2.2.1,d.q.1,d.q.2.1,d.q.2.2.1,d.q.2.2.2.1,d.q.2.2.2.2.1,d.q.q.1,d.q.q.2.1,d.q.q.2.2.1,d.q.q.2.2.2.1,d.q.q.2.2.2.2.1,d.q.q.q.1,d.q.q.q.2.1,d.q.q.q.2.2.1,d.q.q.q.2.2.2.1,d.q.q.q.2.2.2.2.1,d.q.q.q.q.1,d.q.q.q.q.2.1,d.q.q.q.q.2.2.1,d.q.q.q.q.2.2.2.1,c,ms,z.1,z.2.1,z.2.2.1,z.2.2.2.1,z.2.2.2.2.1,z.q.1,z.q.2.1,z.q.2.2.1,z.q.2.2.2.1,z.q.2.2.2.2.1,z.q.q.1,z.q.q.2.1,z.q.q.2.2.1,z.q.q.2.2.2.1,z.q.q.2.2.2.2.1,z.q.q.q.1,z.q.q.q.2.1,z.q.q.q.2.2.1,z.q.q.q.2.2.2.1,z.q.q.q.2.2.2.2.1,z.q.q.q.q.1,z.q.q.q.q.2.1,z.q.q.q.q.2.2.1,z.q.q.q.q.2.2.2.1,rU d (ms.take k) b,o.1,o.2.1,o.2.2.1,o.2.2.2.1,o.2.2.2.2.1,o.q.1,o.q.2.1,o.q.2.2.1,o.q.2.2.2.1,o.q.2.2.2.2.1,o.q.q.1,o.q.q.2.1,o.q.q.2.2.1,o.q.q.2.2.2.1,o.q.q.2.2.2.2.1,o.q.q.q.1,o.q.q.q.2.1,o.q.q.q.2.2.1,o.q.q.q.2.2.2.1,o.q.q.q.2.2.2.2.1,o.q.q.q.q.1,o.q.q.q.q.2.1,o.q.q.q.q.2.2.1,o.q.q.q.q.2.2.2.1,b.1,b.2.1,b.2.2.1,b.2.2.2.1,((k:Nat):Int),())) (by
  simp only [jb,ui,aA,cond_false,List.take_length]) (fun k hk=>by
  have ht:=Ed d (ms.take k) b;rw [List.length_take] at ht;simp only [jb,ui,az hk,au,cond_true,aC,List.getElem?_eq_getElem hk,Option.bind_some,(mR b hb).1,bh (show ((rU d (ms.take k) b).length+1)*48≤lim by unfold lim;omega),aF (show k<4611686018427387904 by omega),Jj d ms b hk]
  cases decide (ms[k].1=d.1)
  ·rfl
  ·simp only [Bool.not_true,cond_false,List.append_nil])
 exact l1
theorem FF (c:Int) (ms:List (Int×Unit)) (xs:List gj) (h0:ms.length≤1048576) (h:kZ xs):lU c ms xs=some (ss c ms xs,()):=by
 have Nl:=h.len;have Pt:∀ {k:Nat} (hk:k<ms.length),ss c (ms.drop k) xs=((jo xs c ms[k].1).isSome&&ss c (ms.drop (k+1)) xs):=fun hk=>by
  unfold ss;rw [List.drop_eq_getElem_cons hk,List.all_cons]
 have fin:∀ {e:Sum Unit (Bool×Unit)} {b:Bool},((e=.inl ()∧b=true)∨(e=.inr (false,())∧b=false))→cT (some e) (fun _=>some (true,())) (fun y=>some (y.1,()))=some (b,()):=by
  rintro e b (⟨rfl,rfl⟩ | ⟨rfl,rfl⟩)
  ·rfl
  ·rfl
 ·obtain ⟨e,he,hq⟩:=fV (round:=gJ) (x:=(xs,c,ms,((0:Nat):Int),())) ms.length
   (fun k x=>x=(xs,c,ms,((k:Nat):Int),())∧ss c ms xs=ss c (ms.drop k) xs)
   (fun e=>(e=.inl ()∧ss c ms xs=true)∨(e=.inr (false,())∧ss c ms xs=false)) (by
    rintro x ⟨rfl,g⟩
    refine ⟨.inl (),by simp only [gJ,kn,aA,cond_false],.inl ⟨rfl,?_⟩⟩;rw [g,List.drop_length];rfl) (by
    rintro k x hk ⟨rfl,g⟩
    rw [Pt hk] at g;simp only [gJ,kn,az hk,au,cond_true,aC,List.getElem?_eq_getElem hk,Option.bind_some,rQ c ms xs _ h,aF (show k<4611686018427387904 by omega)]
    cases hb:jo xs c ms[k].1 with
    |none=>
     rw [hb] at g;exact .inl ⟨_,rfl,.inr ⟨rfl,g⟩⟩
    |some b=>
     rw [hb] at g;exact .inr ⟨_,rfl,rfl,g⟩) ⟨rfl,rfl⟩
  have he:aG gJ (xs,c,ms,(0:Int),())=some e:=he;unfold lU;rw [he];exact fin hq
theorem QR (d:js) (h:uE d≤1048576) (c:Int) (ms:gL) (hl:ms.length≤1048576):lW d.1 d.2.1 d.2.2.1 d.2.2.2.1 d.2.2.2.2.1 d.q.1 d.q.2.1 d.q.2.2.1 d.q.2.2.2.1 d.q.2.2.2.2.1 d.q.q.1 d.q.q.2.1 d.q.q.2.2.1 d.q.q.2.2.2.1 d.q.q.2.2.2.2.1 d.q.q.q.1 d.q.q.q.2.1 d.q.q.q.2.2.1 d.q.q.q.2.2.2.1 d.q.q.q.2.2.2.2.1 d.q.q.q.q.1 d.q.q.q.q.2.1 d.q.q.q.q.2.2.1 d.q.q.q.q.2.2.2.1 c ms=some ((cZ d c ms).1.1,(cZ d c ms).1.2.1,(cZ d c ms).1.2.2.1,(cZ d c ms).1.2.2.2.1,(cZ d c ms).1.2.2.2.2.1,(cZ d c ms).1.q.1,(cZ d c ms).1.q.2.1,(cZ d c ms).1.q.2.2.1,(cZ d c ms).1.q.2.2.2.1,(cZ d c ms).1.q.2.2.2.2.1,(cZ d c ms).1.q.q.1,(cZ d c ms).1.q.q.2.1,(cZ d c ms).1.q.q.2.2.1,(cZ d c ms).1.q.q.2.2.2.1,(cZ d c ms).1.q.q.2.2.2.2.1,(cZ d c ms).1.q.q.q.1,(cZ d c ms).1.q.q.q.2.1,(cZ d c ms).1.q.q.q.2.2.1,(cZ d c ms).1.q.q.q.2.2.2.1,(cZ d c ms).1.q.q.q.2.2.2.2.1,(cZ d c ms).1.q.q.q.q.1,(cZ d c ms).1.q.q.q.q.2.1,(cZ d c ms).1.q.q.q.q.2.2.1,(cZ d c ms).1.q.q.q.q.2.2.2.1,(cZ d c ms).2.1,(cZ d c ms).2.2,()):=by
 obtain ⟨k1,_,k3⟩:=Jb d h;obtain ⟨r1,_,r3⟩:=wA c ms hl;have i1:=wz ms d.1 hl;have p1:=(Ku d h).1;have cr:=pH c ms hl;unfold lW cZ CE;simp only [k1,r1,i1,p1,cr,Option.bind_some]
 cases h1:AO d
 ·rfl
 cases h2:d.2.1
 case true=>rfl
 cases h3:tw c ms
 ·rfl
 cases h4:decide ((d.1,())∈ms)
 ·rfl
 cases h5:decide (c≤d.q.q.q.2.2.2.1)
 case true=>rfl
 have q:=k3.1 h1;have hr:=r3.1 h3;have hm:=of_decide_eq_true h4;have hc:d.q.q.q.2.2.2.1<c:=by have:=of_decide_eq_false h5;omega
 obtain ⟨hP,hB,hit,_⟩:=FE q hr hc;have h0:=h;unfold uE at h0;have pm:=(CF d c ms h q hr hm hc).1;have l1:=Jk d Fy (mh d c ms) (pW d c) c ms hl (by show (d.q.1).length≤_;omega);have l1:aG jb (d.1,d.2.1,d.2.2.1,d.2.2.2.1,d.2.2.2.2.1,d.q.1,d.q.2.1,d.q.2.2.1,d.q.2.2.2.1,d.q.2.2.2.2.1,d.q.q.1,d.q.q.2.1,d.q.q.2.2.1,d.q.q.2.2.2.1,d.q.q.2.2.2.2.1,d.q.q.q.1,d.q.q.q.2.1,d.q.q.q.2.2.1,d.q.q.q.2.2.2.1,d.q.q.q.2.2.2.2.1,d.q.q.q.q.1,d.q.q.q.q.2.1,d.q.q.q.q.2.2.1,d.q.q.q.q.2.2.2.1,c,ms,0,false,0,0,[],[],[],[],0,0,0,0,0,0,0,0,0,[],0,0,0,[],[],[],[],d.1,d.2.1,(bL d).1,(bL d).2.1,(bL d).2.2.1,(bL d).2.2.2.1,(bL d).2.2.2.2.1,(bL d).q.1,(bL d).q.2.1,(bL d).q.2.2.1,(bL d).q.2.2.2.1,(bL d).q.2.2.2.2.1,(bL d).q.q.1,(bL d).q.q.2.1,(bL d).q.q.2.2.1,(bL d).q.q.2.2.2.1,(bL d).q.q.2.2.2.2.1,(bL d).q.q.q.1,c,d.q.q.q.2.2.2.2.1,c,ms,[(d.1,c,d.q.q.q.2.2.2.2.1,d.q.1,())],d.q.q.q.q.2.2.2.1,d.1,c,d.q.q.q.2.2.2.2.1,d.q.1,(0:Int),())=_:=l1;have ah:=FF c ms [pW d c] hl hB;have iv:=(yJ (mh d c ms) hr hm hB (by show (d.2.2.2.2.1).length≤_;have:=(v7 q).1;omega) (by show (d.q.q.q.q.2.2.2.1).length≤_;omega)).1;rw [h2] at l1;obtain ⟨o,ho⟩:∃o,o=mh d c ms:=⟨_,rfl⟩;have ah:lU o.q.q.q.q.1 o.q.q.q.q.2.1 o.q.q.q.q.2.2.1=some (ss c ms [pW d c],()):=by rw [ho];exact ah
 rw [←ho] at iv l1;unfold eJ at pm ⊢;rw [←ho] at pm ⊢;simp only [bL] at l1;simp only [Bool.not_true,Bool.not_false,Bool.and_self,cond_false,cond_true,List.nil_append,bh (show (0+(d.q.1).length)*40≤lim by unfold lim;omega),l1,cT,Option.bind_some,ah]
 cases hh:ss c ms [pW d c]
 ·rw [hh] at pm;simp only [cond_false] at pm ⊢;rw [pm];rfl
 ·rw [hh] at pm;simp only [cond_true] at pm ⊢;rw [iv];simp only [Option.bind_some];rw [pm];rfl
theorem zH {ms:gL} (h:Hk ms ms.length) {i j:Nat} (hj:j<ms.length) (hij:i<j):(ms[i]'(by omega)).1<ms[j].1:=by
 have key:∀(d i:Nat) (hi:i+d+1<ms.length),ms[i].1<ms[i+d+1].1:=by
  intro d
  induction d with
  |zero=>intro i hi;exact (h (i+1) hi hi).2 (by omega)
  |succ d ih=>
   intro i hi;have h1:=ih i (by omega);have h2:=(h (i+(d+1)+1) hi hi).2 (by omega);have e:i+(d+1)+1-1=i+d+1:=by omega
   simp only [e] at h2;omega
 have:=key (j-i-1) i (by omega);simpa [show i+(j-i-1)+1=j by omega] using this
theorem Hw {ms:gL} (h:Hk ms ms.length) {id:Int} (hm:(id,())∈ms):(ms.filter fun m => !decide (m.1=id)).length=ms.length-1:=by
 obtain ⟨k,hk,e⟩:=List.mem_iff_getElem.1 hm;have e:ms[k].1=id:=congrArg Prod.fst e;have h1:(ms.take k).filter (fun m => !decide (m.1=id))=ms.take k:=List.filter_eq_self.2 fun x hx=>by
  obtain ⟨i,hi,rfl⟩:=List.mem_iff_getElem.1 hx;rw [List.length_take] at hi;rw [List.getElem_take];have:=zH h hk (show i<k by omega);rw [decide_eq_false (show ¬(ms[i]'(by omega)).1=id by omega)];rfl
 have h2:(ms.drop (k+1)).filter (fun m => !decide (m.1=id))=ms.drop (k+1):=List.filter_eq_self.2 fun x hx=>by
  obtain ⟨i,hi,rfl⟩:=List.mem_iff_getElem.1 hx;rw [List.length_drop] at hi;rw [List.getElem_drop];have:=zH h (show k+1+i<ms.length by omega) (show k<k+1+i by omega);rw [decide_eq_false (show ¬(ms[k+1+i]'(by omega)).1=id by omega)];rfl
 have h3:ms=ms.take k++ms[k]::ms.drop (k+1):=by rw [←List.drop_eq_getElem_cons hk,List.take_append_drop]
 have h4:ms.filter (fun m => !decide (m.1=id))=ms.take k++ms.drop (k+1):=by
  rw [h3,List.filter_append,List.filter_cons,decide_eq_true e,←h3];simp only [Bool.not_true,Bool.false_eq_true,if_false];rw [h1,h2]
 rw [h4,List.length_append,List.length_take,List.length_drop];omega
theorem Mw {d:js} {ms:gL} (h:Hk ms ms.length) (hm:(d.1,())∈ms) (b:gj):rU d ms b=List.replicate (ms.length-1) b:=by
 unfold rU;rw [List.map_const',Hw h hm]
theorem Mx {d:js} {c:Int} {ms:gL} (hr:wX c ms) (hm:(d.1,())∈ms) (hP:CA (pW d c)) (hb:(d.q.1).length≤1048576):ss c ms [pW d c]=decide (((List.length ms:Nat):Int)=1):=by
 have gP:tv (pW d c)=true:=(Kt (pW d c) hb).2 hP;have Rc:∀x:Int,(jo [pW d c] c x).isSome=decide (d.1=x):=fun x=>by
  unfold jo;rw [List.find?_cons,List.find?_nil,gP];show (match decide (d.1=x)&&(decide (c=c)&&true) with | true=>some (pW d c) | false=>none).isSome=_;rw [decide_eq_true (rfl:c=c)]
  cases decide (d.1=x)<;>rfl
 have hl:=hr.2.1.1;unfold ss
 by_cases h1:ms.length=1
 ·rw [ak (show ((List.length ms:Nat):Int)=1 by omega)];refine List.all_eq_true.2 fun x hx => ?_
  obtain ⟨i,hi,rfl⟩:=List.mem_iff_getElem.1 hx;obtain ⟨j,hj,e⟩:=List.mem_iff_getElem.1 hm;have:i=j:=by omega
  subst this;rw [Rc,e];exact decide_eq_true rfl
 ·rw [aq (show ¬((List.length ms:Nat):Int)=1 by omega)];have h01:=zH hr.2.2 (show 1<ms.length by omega) (show 0<1 by omega)
  cases hh:ms.all fun m=>(jo [pW d c] c m.1).isSome
  ·rfl
  ·have h2:=List.all_eq_true.1 hh _ (List.getElem_mem (show 0<ms.length by omega));have h3:=List.all_eq_true.1 hh _ (List.getElem_mem (show 1<ms.length by omega));rw [Rc] at h2 h3;have h2:=of_decide_eq_true h2;have h3:=of_decide_eq_true h3;omega
theorem Jl (z o:js) (b:gj) (c:Int) (ms:gL) (m:Nat) (hl:m≤1048576) (hb:b.2.2.2.1.length≤1048576) :
  aG jd (c,ms,z.1,z.2.1,z.2.2.1,z.2.2.2.1,z.2.2.2.2.1,z.q.1,z.q.2.1,z.q.2.2.1,z.q.2.2.2.1,z.q.2.2.2.2.1,z.q.q.1,z.q.q.2.1,z.q.q.2.2.1,z.q.q.2.2.2.1,z.q.q.2.2.2.2.1,z.q.q.q.1,z.q.q.q.2.1,z.q.q.q.2.2.1,z.q.q.q.2.2.2.1,z.q.q.q.2.2.2.2.1,z.q.q.q.q.1,z.q.q.q.q.2.1,z.q.q.q.q.2.2.1,z.q.q.q.q.2.2.2.1,o.1,o.2.1,o.2.2.1,o.2.2.2.1,o.2.2.2.2.1,o.q.1,o.q.2.1,o.q.2.2.1,o.q.2.2.2.1,o.q.2.2.2.2.1,o.q.q.1,o.q.q.2.1,o.q.q.2.2.1,o.q.q.2.2.2.1,o.q.q.2.2.2.2.1,o.q.q.q.1,o.q.q.q.2.1,o.q.q.q.2.2.1,o.q.q.q.2.2.2.1,o.q.q.q.2.2.2.2.1,o.q.q.q.q.1,o.q.q.q.q.2.1,o.q.q.q.q.2.2.1,o.q.q.q.q.2.2.2.1,b.1,b.2.1,b.2.2.1,b.2.2.2.1,[],((m:Nat):Int),(0:Int),())=some (.inl (c,ms,z.1,z.2.1,z.2.2.1,z.2.2.2.1,z.2.2.2.2.1,z.q.1,z.q.2.1,z.q.2.2.1,z.q.2.2.2.1,z.q.2.2.2.2.1,z.q.q.1,z.q.q.2.1,z.q.q.2.2.1,z.q.q.2.2.2.1,z.q.q.2.2.2.2.1,z.q.q.q.1,z.q.q.q.2.1,z.q.q.q.2.2.1,z.q.q.q.2.2.2.1,z.q.q.q.2.2.2.2.1,z.q.q.q.q.1,z.q.q.q.q.2.1,z.q.q.q.q.2.2.1,z.q.q.q.q.2.2.2.1,o.1,o.2.1,o.2.2.1,o.2.2.2.1,o.2.2.2.2.1,o.q.1,o.q.2.1,o.q.2.2.1,o.q.2.2.2.1,o.q.2.2.2.2.1,o.q.q.1,o.q.q.2.1,o.q.q.2.2.1,o.q.q.2.2.2.1,o.q.q.2.2.2.2.1,o.q.q.q.1,o.q.q.q.2.1,o.q.q.q.2.2.1,o.q.q.q.2.2.2.1,o.q.q.q.2.2.2.2.1,o.q.q.q.q.1,o.q.q.q.q.2.1,o.q.q.q.q.2.2.1,o.q.q.q.q.2.2.2.1,List.replicate m b,())):=by
 have l1:=bT (round:=jd) (e:=.inl (c,ms,z.1,z.2.1,z.2.2.1,z.2.2.2.1,z.2.2.2.2.1,z.q.1,z.q.2.1,z.q.2.2.1,z.q.2.2.2.1,z.q.2.2.2.2.1,z.q.q.1,z.q.q.2.1,z.q.q.2.2.1,z.q.q.2.2.2.1,z.q.q.2.2.2.2.1,z.q.q.q.1,z.q.q.q.2.1,z.q.q.q.2.2.1,z.q.q.q.2.2.2.1,z.q.q.q.2.2.2.2.1,z.q.q.q.q.1,z.q.q.q.q.2.1,z.q.q.q.q.2.2.1,z.q.q.q.q.2.2.2.1,o.1,o.2.1,o.2.2.1,o.2.2.2.1,o.2.2.2.2.1,o.q.1,o.q.2.1,o.q.2.2.1,o.q.2.2.2.1,o.q.2.2.2.2.1,o.q.q.1,o.q.q.2.1,o.q.q.2.2.1,o.q.q.2.2.2.1,o.q.q.2.2.2.2.1,o.q.q.q.1,o.q.q.q.2.1,o.q.q.q.2.2.1,o.q.q.q.2.2.2.1,o.q.q.q.2.2.2.2.1,o.q.q.q.q.1,o.q.q.q.q.2.1,o.q.q.q.q.2.2.1,o.q.q.q.q.2.2.2.1,List.replicate m b,())) m (fun k=>(c,ms,z.1,z.2.1,z.2.2.1,z.2.2.2.1,z.2.2.2.2.1,z.q.1,z.q.2.1,z.q.2.2.1,z.q.2.2.2.1,z.q.2.2.2.2.1,z.q.q.1,z.q.q.2.1,z.q.q.2.2.1,z.q.q.2.2.2.1,z.q.q.2.2.2.2.1,z.q.q.q.1,z.q.q.q.2.1,z.q.q.q.2.2.1,z.q.q.q.2.2.2.1,z.q.q.q.2.2.2.2.1,z.q.q.q.q.1,z.q.q.q.q.2.1,z.q.q.q.q.2.2.1,z.q.q.q.q.2.2.2.1,o.1,o.2.1,o.2.2.1,o.2.2.2.1,o.2.2.2.2.1,o.q.1,o.q.2.1,o.q.2.2.1,o.q.2.2.2.1,o.q.2.2.2.2.1,o.q.q.1,o.q.q.2.1,o.q.q.2.2.1,o.q.q.2.2.2.1,o.q.q.2.2.2.2.1,o.q.q.q.1,o.q.q.q.2.1,o.q.q.q.2.2.1,o.q.q.q.2.2.2.1,o.q.q.q.2.2.2.2.1,o.q.q.q.q.1,o.q.q.q.q.2.1,o.q.q.q.q.2.2.1,o.q.q.q.q.2.2.2.1,b.1,b.2.1,b.2.2.1,b.2.2.2.1,List.replicate k b,((m:Nat):Int),((k:Nat):Int),())) (by
  simp only [jd,uq,aA,cond_false]) (fun k hk=>by
  simp only [jd,uq,az hk,cond_true];rw [(mR b hb).2];simp only [Option.bind_some,List.length_replicate,bh (show (k+1)*48≤lim by unfold lim;omega),cond_true,aF (show k<4611686018427387904 by omega),List.replicate_succ'])
 exact l1
theorem QS (d:js) (h:uE d≤1048576) (c:Int) (ms:gL) (hl:ms.length≤1048576):iS d.1 d.2.1 d.2.2.1 d.2.2.2.1 d.2.2.2.2.1 d.q.1 d.q.2.1 d.q.2.2.1 d.q.2.2.2.1 d.q.2.2.2.2.1 d.q.q.1 d.q.q.2.1 d.q.q.2.2.1 d.q.q.2.2.2.1 d.q.q.2.2.2.2.1 d.q.q.q.1 d.q.q.q.2.1 d.q.q.q.2.2.1 d.q.q.q.2.2.2.1 d.q.q.q.2.2.2.2.1 d.q.q.q.q.1 d.q.q.q.q.2.1 d.q.q.q.q.2.2.1 d.q.q.q.q.2.2.2.1 c ms=some ((cZ d c ms).1.1,(cZ d c ms).1.2.1,(cZ d c ms).1.2.2.1,(cZ d c ms).1.2.2.2.1,(cZ d c ms).1.2.2.2.2.1,(cZ d c ms).1.q.1,(cZ d c ms).1.q.2.1,(cZ d c ms).1.q.2.2.1,(cZ d c ms).1.q.2.2.2.1,(cZ d c ms).1.q.2.2.2.2.1,(cZ d c ms).1.q.q.1,(cZ d c ms).1.q.q.2.1,(cZ d c ms).1.q.q.2.2.1,(cZ d c ms).1.q.q.2.2.2.1,(cZ d c ms).1.q.q.2.2.2.2.1,(cZ d c ms).1.q.q.q.1,(cZ d c ms).1.q.q.q.2.1,(cZ d c ms).1.q.q.q.2.2.1,(cZ d c ms).1.q.q.q.2.2.2.1,(cZ d c ms).1.q.q.q.2.2.2.2.1,(cZ d c ms).1.q.q.q.q.1,(cZ d c ms).1.q.q.q.q.2.1,(cZ d c ms).1.q.q.q.q.2.2.1,(cZ d c ms).1.q.q.q.q.2.2.2.1,(cZ d c ms).2.1,(cZ d c ms).2.2,()):=by
 obtain ⟨_,k2,k3⟩:=Jb d h;obtain ⟨_,r2,r3⟩:=wA c ms hl;have i2:=Fs ms d.1 hl;have p2:=(Ku d h).2;have cr:=mQ c ms hl;unfold iS cZ CE;simp only [k2,r2,i2,Option.bind_some]
 cases h2:d.2.1
 case true=>cases AO d<;>rfl
 cases h4:decide ((d.1,())∈ms)
 ·cases AO d<;>cases tw c ms<;>rfl
 cases h5:decide (c≤d.q.q.q.2.2.2.1)
 case true=>cases AO d<;>cases tw c ms<;>rfl
 cases h3:tw c ms
 ·cases AO d<;>rfl
 cases h1:AO d
 ·rfl
 have q:=k3.1 h1;have hr:=r3.1 h3;have hm:=of_decide_eq_true h4;have hc:d.q.q.q.2.2.2.1<c:=by have:=of_decide_eq_false h5;omega
 obtain ⟨hP,hB,hit,_⟩:=FE q hr hc;have h0:=h;unfold uE at h0;have hlm:=hr.2.1;have iv:=(yJ (mh d c ms) hr hm hB (by show (d.2.2.2.2.1).length≤_;have:=(v7 q).1;omega) (by show (d.q.q.q.q.2.2.2.1).length≤_;omega)).2;have hw:IntKind.i64.wrap (((List.length ms:Nat):Int)-1)=((ms.length-1:Nat):Int):=by rw [ef]<;>omega
 have ci:=vX d.q.1 (by omega);have l1:=Jl Fy (mh d c ms) (pW d c) c ms (ms.length-1) (by omega) (by show (d.q.1).length≤_;omega);have l1:aG jd (c,ms,(0:Int),false,(0:Int),(0:Int),[],[],[],[],(0:Int),(0:Int),(0:Int),(0:Int),(0:Int),(0:Int),(0:Int),(0:Int),(0:Int),[],(0:Int),(0:Int),(0:Int),[],[],[],d.1,d.2.1,d.2.2.1,d.2.2.2.1,d.2.2.2.2.1,d.q.1,d.q.2.1,d.q.2.2.1,d.q.2.2.2.1,d.q.2.2.2.2.1,d.q.q.1,d.q.q.2.1,d.q.q.2.2.1,d.q.q.2.2.2.1,d.q.q.2.2.2.2.1,d.q.q.q.1,d.q.q.q.2.1,d.q.q.q.2.2.1,c,d.q.q.q.2.2.2.2.1,c,ms,[(d.1,c,d.q.q.q.2.2.2.2.1,d.q.1,())],d.q.q.q.q.2.2.2.1,d.1,c,d.q.q.q.2.2.2.2.1,d.q.1,[],((ms.length-1:Nat):Int),(0:Int),())=_:=l1;rw [h2] at p2;obtain ⟨o,ho⟩:∃o,o=mh d c ms:=⟨_,rfl⟩;rw [←ho] at iv l1;unfold eJ;rw [←ho,Mx hr hm hP (by omega),Mw hr.2.2 hm];simp only [Bool.not_true,Bool.not_false,Bool.and_self,cond_false,cond_true,p2,cr,ci,hw,l1,cT,Option.bind_some]
 cases decide (((List.length ms:Nat):Int)=1)
 ·simp only [cond_false]
 ·simp only [cond_true];rw [iv];rfl
theorem move_size (d:js) (h:uE d≤1048576) (c:Int) (ms:gL) (hl:ms.length≤1048576):uE (cZ d c ms).1≤4194304∧(cZ d c ms).2.1.length+wl aI (cZ d c ms).2.1≤4194304:=by
 unfold cZ
 cases hb:CE d c ms
 ·exact ⟨Nat.zero_le _,Nat.zero_le _⟩
 ·unfold CE at hb;simp only [Bool.and_eq_true,Bool.not_eq_true',decide_eq_true_eq,decide_eq_false_iff_not] at hb;obtain ⟨h1,h2,h3,h4,h5⟩:=hb;have q:=(Jb d h).2.2.1 h1;have hr:=(wA c ms hl).2.2.1 h3;have hc:d.q.q.q.2.2.2.1<c:=by omega
  obtain ⟨hP,hB,hi,hw⟩:=FE q hr hc;refine ⟨(CF d c ms h q hr h4 hc).2,?_⟩;have ht:=Ed d ms (pW d c);have h5:=hr.2.1.2;have e2:aI (pW d c)=(d.q.1).length+wl bJ d.q.1:=rfl;have hx:=O8 aI 3660 (rU d ms (pW d c)) (fun b hb=>by
   obtain ⟨m,_,rfl⟩:=List.mem_map.1 hb;omega)
  show (rU d ms (pW d c)).length+wl aI (rU d ms (pW d c))≤_;omega
end Go.TM
set_option linter.unusedSimpArgs false
set_option linter.unusedVariables false
namespace Go.TM
open Go
theorem My (ca:Int) (dm:Bool) (dg:Int) (cG:Int) (cR:aH) (aw:aj) (cW:aH) (cX:fE) (du:Int) (dv:Int) (bN:Int) (bG:Int) (bO:Int) (bP:Int) (bQ:Int) (bR:Int) (bS:Int) (bD:aH) (bm:Int) (aZ:Int) (aP:Int) (aN:aH) (ba:af) (bq:ai) (fB:Int) (eB:aH) (h0:(List.length cR+wl dk cR)+(List.length aw+wl bJ aw)+(List.length cW+wl dk cW)+(List.length cX+wl sO cX)+(List.length bD+wl dk bD)+(List.length aN+wl dk aN)+(List.length ba+wl aI ba)+(List.length bq+wl ax bq)≤1048576) (h1:(List.length eB+wl dk eB)≤1048576):∃o0 o1 o2 o3 o4 o5 o6 o7 o8 o9 Ux Uy Uz UA UB UC UD Mz UE UF UG MA MB MC R1 o25,lW ca dm dg cG cR aw cW cX du dv bN bG bO bP bQ bR bS bD bm aZ aP aN ba bq fB eB=some (o0,o1,o2,o3,o4,o5,o6,o7,o8,o9,Ux,Uy,Uz,UA,UB,UC,UD,Mz,UE,UF,UG,MA,MB,MC,R1,o25,())∧iS ca dm dg cG cR aw cW cX du dv bN bG bO bP bQ bR bS bD bm aZ aP aN ba bq fB eB=some (o0,o1,o2,o3,o4,o5,o6,o7,o8,o9,Ux,Uy,Uz,UA,UB,UC,UD,Mz,UE,UF,UG,MA,MB,MC,R1,o25,())∧(List.length o4+wl dk o4)+(List.length o5+wl bJ o5)+(List.length o6+wl dk o6)+(List.length o7+wl sO o7)+(List.length Mz+wl dk Mz)+(List.length MA+wl dk MA)+(List.length MB+wl aI MB)+(List.length MC+wl ax MC)≤4194304∧(List.length R1+wl aI R1)≤4194304:=by
 obtain ⟨s1,s2⟩:=move_size (ca,dm,dg,cG,cR,aw,cW,cX,du,dv,bN,bG,bO,bP,bQ,bR,bS,bD,bm,aZ,aP,aN,ba,bq,()) h0 (fB,eB,()).1 (fB,eB,()).2.1 (by show List.length eB≤_;omega);exact ⟨_,_,_,_,_,_,_,_,_,_,_,_,_,_,_,_,_,_,_,_,_,_,_,_,_,_,QR (ca,dm,dg,cG,cR,aw,cW,cX,du,dv,bN,bG,bO,bP,bQ,bR,bS,bD,bm,aZ,aP,aN,ba,bq,()) h0 _ _ (by show List.length eB≤_;omega),QS (ca,dm,dg,cG,cR,aw,cW,cX,du,dv,bN,bG,bO,bP,bQ,bR,bS,bD,bm,aZ,aP,aN,ba,bq,()) h0 _ _ (by show List.length eB≤_;omega),s1,s2⟩
end Go.TM
set_option linter.unusedSimpArgs false
set_option linter.unusedVariables false
namespace Go.TM
open Go
theorem Pu (oD:Int) (oE:Bool) (oF:Int) (oG:Int) (jW:aH) (jX:aj) (jY:aH) (jZ:fE) (oH:Int) (oI:Int) (kL:Int) (kM:Int) (kN:Int) (kO:Int) (kP:Int) (kQ:Int) (kR:Int) (ga:aH) (kS:Int) (kT:Int) (kU:Int) (gd:aH) (gh:af) (gi:ai) (lM:Int) (jn:aH) (Px:cQ (oD,oE,oF,oG,jW,jX,jY,jZ,oH,oI,kL,kM,kN,kO,kP,kQ,kR,ga,kS,kT,kU,gd,gh,gi,())) (Qb:OY (lM,jn,())):iw oD oE oF oG jW jX jY jZ oH oI kL kM kN kO kP kQ kR ga kS kT kU gd gh gi lM jn=some (true,()):=by
 unfold iw;obtain ⟨m0,e0,l0,w0⟩:=L8 oD oE oF oG jW jX jY jZ oH oI kL kM kN kO kP kQ kR ga kS kT kU gd gh gi (left:=1048576) Px (by omega) (by omega);rw [e0];simp only [Option.bind_some]
 by_cases SC:m0<0
 ·rw [ak SC];rfl
 have w0:0≤m0→(((List.length jW+wl dk jW)+(List.length jX+wl bJ jX)+(List.length jY+wl dk jY)+(List.length jZ+wl sO jZ)+(List.length ga+wl dk ga)+(List.length gd+wl dk gd)+(List.length gh+wl aI gh)+(List.length gi+wl ax gi):Nat):Int)+m0≤1048576:=w0;have w0:=w0 (by omega);rw [aq SC];simp only [cond_false];have UH:(List.length jW+wl dk jW)+(List.length jX+wl bJ jX)+(List.length jY+wl dk jY)+(List.length jZ+wl sO jZ)+(List.length ga+wl dk ga)+(List.length gd+wl dk gd)+(List.length gh+wl aI gh)+(List.length gi+wl ax gi)≤1048576:=by omega
 obtain ⟨m1,e1,l1,w1⟩:=A8 lM jn (left:=m0) Qb (by omega) (by omega);rw [e1];simp only [Option.bind_some]
 by_cases hm1:m1<0
 ·rw [ak hm1];rfl
 have w1:0≤m1→(((List.length jn+wl dk jn):Nat):Int)+m1≤m0:=w1;have w1:=w1 (by omega);rw [aq hm1];simp only [cond_false];have UI:(List.length jn+wl dk jn)≤1048576:=by omega
 obtain ⟨o0,o1,o2,o3,o4,o5,o6,o7,o8,o9,Ux,Uy,Uz,UA,UB,UC,UD,Mz,UE,UF,UG,MA,MB,MC,R1,o25,sR,him,afZ,af0⟩:=My oD oE oF oG jW jX jY jZ oH oI kL kM kN kO kP kQ kR ga kS kT kU gd gh gi lM jn UH UI;obtain ⟨abd,abe,abf,abg,abh,abi,abj,abk,UJ,UK,af1,af2,af3,af4,af5,af6,af7,af8⟩:=D6 oD oE oF oG jW jX jY jZ oH oI kL kM kN kO kP kQ kR ga kS kT kU gd gh gi (1) (by omega) (by omega) (by omega) (by omega) (by omega) (by omega) (by omega) (by omega) (by omega);have UJ:ev oD oE oF oG jW jX jY jZ oH oI kL kM kN kO kP kQ kR ga kS kT kU gd gh gi (1:Int)=some (((1+1*List.length jW+4*List.length jX+1*List.length jY+1*List.length jZ+1*List.length ga+1*List.length gd+wl aX gh+wl aM gi:Nat):Int),abd,abe,abf,abg,abh,abi,abj,abk,()):=UJ;have UK:fi oD oE oF oG abd abe abf abg oH oI kL kM kN kO kP kQ kR abh kS kT kU abi abj abk (1:Int)=some (((1+1*List.length jW+4*List.length jX+1*List.length jY+1*List.length jZ+1*List.length ga+1*List.length gd+wl aX gh+wl aM gi:Nat):Int),()):=UK;obtain ⟨amp,af9,aga,agb⟩:=Fl lM jn (1+1*List.length jW+4*List.length jX+1*List.length jY+1*List.length jZ+1*List.length ga+1*List.length gd+wl aX gh+wl aM gi) (by omega) (by omega);obtain ⟨abl,abm,abn,abo,abp,abq,abr,abt,UL,UM,agc,agd,age,agf,agh,agi,agj,agk⟩:=D6 o0 o1 o2 o3 o4 o5 o6 o7 o8 o9 Ux Uy Uz UA UB UC UD Mz UE UF UG MA MB MC (1) (by omega) (by omega) (by omega) (by omega) (by omega) (by omega) (by omega) (by omega) (by omega);have UL:ev o0 o1 o2 o3 o4 o5 o6 o7 o8 o9 Ux Uy Uz UA UB UC UD Mz UE UF UG MA MB MC (1:Int)=some (((1+1*List.length o4+4*List.length o5+1*List.length o6+1*List.length o7+1*List.length Mz+1*List.length MA+wl aX MB+wl aM MC:Nat):Int),abl,abm,abn,abo,abp,abq,abr,abt,()):=UL;have UM:fi o0 o1 o2 o3 abl abm abn abo o8 o9 Ux Uy Uz UA UB UC UD abp UE UF UG abq abr abt (1:Int)=some (((1+1*List.length o4+4*List.length o5+1*List.length o6+1*List.length o7+1*List.length Mz+1*List.length MA+wl aX MB+wl aM MC:Nat):Int),()):=UM;obtain ⟨amq,agl,agm,agn⟩:=Ct R1 (1+1*List.length o4+4*List.length o5+1*List.length o6+1*List.length o7+1*List.length Mz+1*List.length MA+wl aX MB+wl aM MC) (by omega) (by omega);simp only [Mb oD oE oF oG jW jX jY jZ oH oI kL kM kN kO kP kQ kR ga kS kT kU gd gh gi (Nat.le_trans UH (by decide)),Ba lM jn (Nat.le_trans UI (by decide)),sR,him,D3 o0 o1 o2 o3 o4 o5 o6 o7 o8 o9 Ux Uy Uz UA UB UC UD Mz UE UF UG MA MB MC afZ,Cp R1 af0,D3 oD oE oF oG jW jX jY jZ oH oI kL kM kN kO kP kQ kR ga kS kT kU gd gh gi (Nat.le_trans UH (by decide)),Bc lM jn (Nat.le_trans UI (by decide)),UJ,UK,aq (show ¬((1+1*List.length jW+4*List.length jX+1*List.length jY+1*List.length jZ+1*List.length ga+1*List.length gd+wl aX gh+wl aM gi:Nat):Int)<0 by omega),af9,aga,aq (show ¬((1+1*List.length jW+4*List.length jX+1*List.length jY+1*List.length jZ+1*List.length ga+1*List.length gd+wl aX gh+wl aM gi+1*List.length jn:Nat):Int)<0 by omega),UL,UM,aq (show ¬((1+1*List.length o4+4*List.length o5+1*List.length o6+1*List.length o7+1*List.length Mz+1*List.length MA+wl aX MB+wl aM MC:Nat):Int)<0 by omega),agl,agm,aq (show ¬((1+1*List.length o4+4*List.length o5+1*List.length o6+1*List.length o7+1*List.length Mz+1*List.length MA+wl aX MB+wl aM MC+wl aX R1:Nat):Int)<0 by omega),Option.bind_some,cond_false,cond_true,Bool.not_true,Bool.not_false,decide_true,beq_self_eq_true,dB]
end Go.TM
