/- slices.Sort and slices.Compact at whole numbers, of the kit's library of contracts, as functions of the tree machine. -/
import Derived.Test.YtiljcjnnhkidbaaGreatLibWide
import Derived.Shelf.Sort.Plain
import Derived.Shelf.Slices.In.SortNone
import Derived.Shelf.Slices.In.CompactI
namespace Go.TM
open Go Go.RowKit Go.Proofs Go.Shelf Go.Sort
abbrev kE:RT:=.cons (.int .i64) .nil
def cu (xs:List (Int×Unit)):List Int:=xs.map (·.1)
def bE (zs:List Int):List (Int×Unit):=zs.map fun z=>(z,())
theorem ea (zs:List Int):(bE zs).length=zs.length:=List.length_map ..
theorem kR (xs:List (Int×Unit)):(cu xs).length=xs.length:=List.length_map ..
theorem PK (xs:List (Int×Unit)) (j:Nat) (h:j<(cu xs).length):(cu xs)[j]=(xs[j]'(by rw [kR] at h;exact h)).1:=List.getElem_map ..
theorem PL (zs:List Int) (j:Nat) (h:j<(bE zs).length):(bE zs)[j]=(zs[j]'(by rw [ea] at h;exact h),()):=List.getElem_map ..
theorem HM {w:World} {ok:Nat→Prop} {b off:Nat} {cur:Array Value} {ty:TypeId} {xs:List (aO kE)} (hb:w.heap[b]?=some (.cells cur ty (0,0))) (hx:∀i x,xs[i]?=some x→fH w ok kE b (off+i*kE.width) x) :
  Holds (Value.int .i64) w b off (cu xs).toArray:=by
 intro j hj;have Yn:j<(cu xs).length:=hj;have hlen:(cu xs).length=List.length (α:=aO kE) xs:=kR xs;have VY:j<List.length (α:=aO kE) xs:=by omega
 have h1:fH w ok (.cons (.int .i64) .nil) b (off+j*kE.width) (xs[j]'VY):=hx j _ (List.getElem?_eq_getElem VY);unfold fH at h1;obtain ⟨⟨v,h2,h3⟩,_⟩:=h1;have h3:=yh.1 h3;subst h3;have e:off+j*kE.width=off+j:=by show off+j*1=off+j;omega
 rw [e] at h2;refine ⟨?_,?_⟩
 ·rw [h2,getElem!_pos (cu xs).toArray j hj];exact congrArg (fun z=>some (Value.int .i64 z)) (PK xs j Yn).symm
 ·unfold World.frozen?;simp only [hb];simp
theorem Cu {w:World} {n:Nat} {os:Array Obj} {b off:Nat} {cur:Array Value} {ty:TypeId} (hb:w.heap[b]?=some (.cells cur ty (0,0))) (zs:List Int) :
  (grow (putRow (Value.int .i64) (Sort.ahead w n) b off zs.toArray) os).heap[b]?=some (.cells (_root_.Go.Sort.putCells (Value.int .i64) off zs.toArray cur) ty (0,0)):=by
 have dM:b<w.heap.size:=(Array.getElem?_eq_some_iff.1 hb).1;show (w.heap.modify b (onCells _)++os)[b]?=_;rw [Array.getElem?_append_left (by simpa using dM),Array.getElem?_modify,if_pos rfl,hb];rfl
theorem PM {w:World} {n:Nat} {os:Array Obj} {b off:Nat} (zs:List Int) {k:Nat} (hk:k<w.heap.size) (lO:k≠b) :
  (grow (putRow (Value.int .i64) (Sort.ahead w n) b off zs.toArray) os).heap[k]?=w.heap[k]?:=by
 show (w.heap.modify b (onCells _)++os)[k]?=_;rw [Array.getElem?_append_left (by simpa using hk),Array.getElem?_modify,if_neg (Ne.symm lO)]
theorem EU {w:World} {n:Nat} {os:Array Obj} {b off:Nat} (zs:List Int):w.heap.size≤(grow (putRow (Value.int .i64) (Sort.ahead w n) b off zs.toArray) os).heap.size:=by
 show w.heap.size≤(w.heap.modify b (onCells _)++os).size;rw [Array.size_append,Array.size_modify];omega
theorem NL {c:Cz} {w:World} {mu:Mu} {n:Nat} {os:Array Obj} {b off:Nat} (hH:Handed c w mu) (hm:mu.m b) (zs:List Int):FN w mu c (grow (putRow (Value.int .i64) (Sort.ahead w n) b off zs.toArray) os):=
 ⟨fun b' l tX=>⟨Nat.lt_of_lt_of_le (hH.lt b' l tX) (EU zs),(hH.lb b' l tX).imp id fun hh=>.inr ((hH.m b').2 ⟨l,tX,hh⟩)⟩,fun b' _ tX=>.inr ((hH.ok b').2 tX),⟨rfl,rfl,rfl,EU zs⟩,fun k hk hkm=>PM zs hk (fun e=>hkm (e▸hm))⟩
theorem Ki {w:World} {ok:Nat→Prop} {n:Nat} {os:Array Obj} {b off:Nat} {cur:Array Value} {ty:TypeId} (hb:w.heap[b]?=some (.cells cur ty (0,0))) (zs:List Int) (hs:off+zs.length≤cur.size) {ys:List Int} (hy:ys <+: zs) :
  ∀i (x:aO kE),(show List (aO kE) from bE ys)[i]?=some x→fH (grow (putRow (Value.int .i64) (Sort.ahead w n) b off zs.toArray) os) ok kE b (off+i*kE.width) x:=by
 intro i x hi;have Vz:i<(bE ys).length:=(List.getElem?_eq_some_iff.1 hi).1;have hil:i<ys.length:=by rw [ea] at Vz;exact Vz
 have hiz:i<zs.length:=Nat.lt_of_lt_of_le hil hy.length_le;have hx:(bE ys)[i]=x:=(List.getElem?_eq_some_iff.1 hi).2;have Pn:x.1=ys[i]:=by
  rw [←hx];exact congrArg Prod.fst (PL ys i Vz)
 have hyz:ys[i]=zs[i]:=by
  obtain ⟨t,rfl⟩:=hy;exact (List.getElem_append_left hil).symm
 have e:off+i*kE.width=off+i:=by show off+i*1=off+i;omega
 rw [e];show fH _ ok (.cons (.int .i64) .nil) b (off+i) x;unfold fH;refine ⟨⟨.int .i64 ys[i],?_,yh.2 (congrArg (Value.int .i64) Pn.symm)⟩,by unfold fH;trivial⟩;unfold World.cell?;simp only [Cu hb zs];have dM:off+i<cur.size:=by omega
 simp only [_root_.Go.Sort.putCells,Array.getElem?_mapIdx,Array.getElem?_eq_getElem dM,Option.map_some];rw [if_neg (by simp),Option.some.injEq,if_pos ⟨by omega,by simp;omega⟩,show off+i-off=i by omega,getElem!_pos _ i (by simpa using hiz)];simp [hyz]
theorem HN {p:AP} {ga:List AV} {x:aO (aG ([p].map some))} (h:ib [p] ga=some x):∃a,ga=[a]∧J3 p .nil a ()=some x:=by
 match ga,h with
 | [],h=>cases h
 | [a],h=>exact ⟨a,rfl,h⟩
 |a::b::l,h=>cases h
theorem PN {p:OP} {t:RT} {os:List OV} {y:aO t} {x:aO (oZ [p] t)} (h:fC [p] t os y=some x):∃o z,os=[o]∧vj p o=some z∧x=(z,y):=by
 match os,h with
 | [],h=>cases h
 | [o],h=>
  unfold fC fC at h
  cases hc:vj p o with
  |none=>rw [hc] at h;cases h
  |some z=>
   rw [hc] at h;injection h with h;exact ⟨o,z,rfl,hc,h.symm⟩
 |a::b::l,h=>
  exfalso
  unfold fC fC at h
  cases hc:vj p a<;>rw [hc] at h<;>cases h
def HO (xs:List (Int×Unit)):Option ((List (Int×Unit))×Unit):=bif Nat.ble xs.length lim then some (bE ((cu xs).mergeSort fun x y=>decide (x≤y)),()) else none
theorem PO {P:Program} {ρ:Ren} (L:Lays.n189 P ρ) {f:Nat} (hf:ρ.f 189=f) (UL:∃fn,P.funcs[f]?=some fn∧(fn.name == "runtime.NumGoroutine")=false∧fn.body.isNone=false) :
  tS P f (o8 [.io kE] [] (fun x=>HO x.1)):=by
 refine ⟨?_,UL⟩;intro c w mu lc ga args A y hH hA hs ho;unfold o8 at hs
 cases hx:ib [.io kE] ga with
 |none=>rw [hx] at hs;cases hs
 |some x=>
  rw [hx] at hs;simp only [Option.some.injEq] at hs;subst hs;obtain ⟨a0,rfl,hq⟩:=HN hx;clear hx
  cases a0 with
  |val _ _=>cases hq
  |box _=>cases hq
  |dZ _=>cases hq
  |io A0=>
   obtain ⟨v,l,ha,hv,hl⟩:=hA;have hl:l=[]:=hl;subst hl;have ha:args = #[v]:=Array.toList_inj.1 ha;subst ha;obtain ⟨r0,o0,tR,md0⟩:=A0;unfold J3 at hq;obtain ⟨Lt,MZ⟩:=bJ hq;clear hq;have Lt:=Md.ya.1 Lt;subst Lt
   cases hc:ez kE tR with
   |none=>simp [hc] at MZ
   |some xs=>
    simp only [hc] at MZ;injection MZ with hq;obtain ⟨e,he⟩:=dm hc
    cases e
    have he:xs=tR:=he;rw [he] at hq;subst hq;have GN:HO tR=some y:=ho;unfold HO at GN;obtain ⟨hb,GN⟩:=bJ GN;have LC:=Nat.le_of_ble_eq_true hb;unfold lim at LC;injection GN with GN;subst GN;obtain ⟨h1,h2,h3,h4⟩:OwnAt c w (.dE 0 0) (lc 0 0) { r:=kE,own:=o0,xs:=tR } v:=hv;have h3:o0=true:=h3;subst h3;have Rz:((cu tR).mergeSort fun x y=>decide (x≤y)).length=tR.length:=by rw [List.length_mergeSort];exact kR tR
    have fin:∀(w':World),FN w mu c w'→OwnAt c w' (.dE 0 0) (lc 0 0) { r:=kE,own:=true,xs:=bE ((cu tR).mergeSort fun x y=>decide (x≤y)) } v→
      ∃v',Ending.returned (.tuple #[])=.returned v'∧∃c',FN w mu c' w'∧vh c' w' [] v'∧kC c' w' lc 0 [.io { r:=kE,own:=true,xs:=tR }] [v] [.io { r:=kE,own:=true,xs:=bE ((cu tR).mergeSort fun x y=>decide (x≤y)) }]:=
     fun w' EJ lq=>⟨_,rfl,c,EJ,.inr ⟨by simp,#[],rfl,rfl⟩,_,_,rfl,rfl,(ea _).trans Rz,lq,rfl⟩
    have NM:FN w mu c w:=⟨fun b l hb=>⟨hH.lt b l hb,(hH.lb b l hb).imp id fun hh=>.inr ((hH.m b).2 ⟨l,hb,hh⟩)⟩,fun b _ hb=>.inr ((hH.ok b).2 hb),⟨rfl,rfl,rfl,Nat.le_refl _⟩,fun _ _ _=>rfl⟩
    by_cases lO:tR=[]
    ·-- nothing to sort
     subst lO;have hz:∃a cp,v=.slice a 0 cp:=by
      unfold qW at h2
      split at h2
      ·exact ⟨none,0,h2.1⟩
      ·obtain ⟨a,cp,hv,_⟩:=h2;exact ⟨some a,cp,hv⟩
     obtain ⟨a,cp,rfl⟩:=hz;have oY:=Any.slices_Sort_int_none L a cp w;rw [hf] at oY;refine oY.mono fun e w' ⟨he,hw⟩ => ?_
     subst he;subst hw;refine fin w' NM ?_;have key:∀ys:List (aO kE),ys=[]→OwnAt c w' (.dE 0 0) (lc 0 0) { r:=kE,own:=true,xs:=ys } (.slice a 0 cp):=by
      intro ys e;subst e;exact ⟨h1,h2,rfl,h4⟩
     exact key _ (List.length_eq_zero_iff.1 ((ea _).trans Rz))
    ·generalize np:lc 0 0=loc at *
     cases loc with
     |nil=>exact absurd h4 lO
     |«at» b off cap=>
      obtain ⟨g1,g2,⟨cur,ty,g3,g4⟩,g5⟩:=h4;obtain ⟨a,cp,rfl,k1,k2,k3⟩:=h2;have abt:0<tR.length:=List.length_pos_iff.2 lO;have k1:tR.length≤cp:=k1;have ha:=k3 (by omega);have ha:a=⟨b,off,none⟩:=ha.trans (by rw [Nat.zero_mul];rfl);subst ha;have dM:b<w.heap.size:=(Array.getElem?_eq_some_iff.1 g3).1;have py:off+tR.length≤cur.size:=by
       have g2:tR.length≤cap:=g2;have g4:off+cap*1≤cur.size:=g4;omega
      have oY:=Any.slices_Sort_int L b off cp (cu tR) w (HM g3 ((ey.sh rfl).1 g5)) dM (by rw [kR tR];omega);rw [hf] at oY;have hlen:(cu tR).length=tR.length:=kR tR;rw [hlen] at oY;refine oY.mono fun e w' ⟨he,n,os,hw⟩ => ?_
      subst he;subst hw;have hsl:off+((cu tR).mergeSort fun x y=>decide (x≤y)).length≤cur.size:=by rw [Rz];exact py
      have hm:mu.m b:=(hH.m b).2 ⟨_,g1,rfl⟩;refine fin _ (NL hH hm _) ?_;have NN:(bE ((cu tR).mergeSort fun x y=>decide (x≤y))).length=tR.length:=(ea _).trans Rz;refine ⟨h1,⟨_,cp,congrArg (fun n=>Value.slice (some ⟨b,off,none⟩) n cp) NN.symm,Nat.le_trans (Nat.le_of_eq NN) k1,k2,k3⟩,rfl,g1,?_,⟨_,ty,Cu g3 _,?_⟩,(ey.sh rfl).2 (Ki g3 _ hsl (List.prefix_refl _))⟩
      ·exact Nat.le_trans (Nat.le_of_eq NN) g2
      ·show off+cap*1≤_;simp only [_root_.Go.Sort.putCells,Array.size_mapIdx];exact g4
def qk (xs:List (Int×Unit)):Option ((List (Int×Unit))×Unit):=bif Nat.ble xs.length lim then some (bE (Lib.compact (cu xs)),()) else none
theorem NO (zs:List Int):(Lib.compact zs).length≤zs.length:=by
 unfold Lib.compact Lib.compactUpTo;rw [List.length_map];exact Nat.le_trans (List.length_filter_le _ _) (by simp)
def Cz.one (c:Cz) (b:Nat) (l:Lb):Cz:={ c with own:=fun b'=>if b'=b then some l else c.own b' }
theorem FN.one {c:Cz} {w w':World} {mu:Mu} {b:Nat} {l:Lb} (h:FN w mu c w') (hm:mu.m b) (hb:b<w'.heap.size):FN w mu (c.one b l) w':=by
 refine ⟨fun b' l' h' => ?_,fun b' dM h' => ?_,h.kept,h.old⟩
 ·have h':(if b'=b then some l else c.own b')=some l':=h'
  by_cases e:b'=b
  ·subst e;exact ⟨hb,.inr (.inr hm)⟩
  ·rw [if_neg e] at h';exact h.owned b' l' h'
 ·have h':(if b'=b then some l else c.own b')=none:=h'
  by_cases e:b'=b
  ·rw [if_pos e] at h';cases h'
  ·rw [if_neg e] at h';exact h.free b' dM h'
theorem Jc {P:Program} {ρ:Ren} (L:Lays2.n20 P ρ) {f:Nat} (hf:ρ.f 20=f) (UL:∃fn,P.funcs[f]?=some fn∧(fn.name == "runtime.NumGoroutine")=false∧fn.body.isNone=false) :
  tS P f (o8 [.val false [.own kE]] [{ src:=.tmp 0,agg:=false,ps:=[.own kE] }] (fun x=>qk x.1)):=by
 refine ⟨?_,UL⟩;intro c w mu lc ga args A y hH hA hs ho;unfold o8 at hs
 cases hx:ib [.val false [.own kE]] ga with
 |none=>rw [hx] at hs;cases hs
 |some x=>
  rw [hx] at hs;simp only [Option.some.injEq] at hs;subst hs;have NM:FN w mu c w:=⟨fun b l hb=>⟨hH.lt b l hb,(hH.lb b l hb).imp id fun hh=>.inr ((hH.m b).2 ⟨l,hb,hh⟩)⟩,fun b _ hb=>.inr ((hH.ok b).2 hb),⟨rfl,rfl,rfl,Nat.le_refl _⟩,fun _ _ _=>rfl⟩;have empty:∀a cp,Calls P f #[.slice a 0 cp] w fun e w'=>e=.returned (.slice a 0 cp)∧w'=w:=fun a cp=>by
   have oY:=calls_of_every_depth fun D=>AnyS.slices_Compact_int_empty_in L D a cp w
   rw [hf] at oY;exact oY
  have ans:∀(os:List OV) (v:Value) (c':Cz) (w':World) (loc:Loc) (u:Value) (ys:List (aO kE)),FN w mu c' w'→OwnAt c' w' (.kO 0) loc { r:=kE,own:=true,xs:=ys } u→
    ∃v',Ending.returned u=.returned v'∧∃c',FN w mu c' w'∧vh c' w' [.one (.own { r:=kE,own:=true,xs:=ys })] v'∧kC c' w' lc 0 [.val false os] [v] []:=
   fun os v c' w' loc u ys hb lq=>⟨u,rfl,c',hb,.inl ⟨_,rfl,u,[],rfl,⟨u,[],rfl,⟨loc,lq⟩,rfl⟩,rfl⟩,rfl⟩
  obtain ⟨a0,rfl,hq⟩:=HN hx;clear hx
  cases a0 with
  |io _=>cases hq
  |box _=>cases hq
  |dZ _=>cases hq
  |val ag os=>
  cases ag with
  |true=>cases hq
  |false=>
  obtain ⟨o,z,rfl,hz,LK⟩:=PN hq;clear hq
  cases o with
  |int _ _=>cases hz
  |bool _=>cases hz
  |str _=>cases hz
  |shr _ _=>cases hz
  |nV _ _=>cases hz
  |fn _ _ _=>cases hz
  |gw=>
   obtain ⟨v,l,ha,hv,hl⟩:=hA;have hl:l=[]:=hl;subst hl;have ha:args = #[v]:=Array.toList_inj.1 ha;subst ha;obtain ⟨l',w7,_⟩:=hv;injection w7 with w7 _;subst w7;injection hz with hz;subst hz;subst LK;have GN:qk []=some y:=ho;have hy:y=([],()):=by
    have:qk []=some ([],()):=rfl;rw [this] at GN;injection GN with GN;exact GN.symm
   subst hy;refine (empty none 0).mono fun e w' ⟨he,hw⟩ => ?_
   subst he;subst hw;exact ans _ _ c _ .nil _ [] NM ⟨rfl,⟨rfl,rfl⟩,rfl,rfl⟩
  |own A0=>
   obtain ⟨v,l,ha,hv,hl⟩:=hA;have hl:l=[]:=hl;subst hl;have ha:args = #[v]:=Array.toList_inj.1 ha;subst ha;obtain ⟨v1,l',w7,⟨loc,O8⟩,_⟩:=hv;injection w7 with w7 _;subst w7;obtain ⟨r0,o0,tR,md0⟩:=A0;have hz:(bif md0.is .sh then ez kE tR else none)=some z:=hz;obtain ⟨Lt,hz⟩:=bJ hz;have Lt:=Md.ya.1 Lt;subst Lt
   cases hc:ez kE tR with
   |none=>rw [hc] at hz;cases hz
   |some xs=>
    have hzx:xs=z:=Option.some.inj (hc.symm.trans hz);obtain ⟨e,he⟩:=dm hc
    cases e
    have he:xs=tR:=he;rw [←hzx,he] at LK;subst LK;have GN:qk tR=some y:=ho;unfold qk at GN;obtain ⟨hb,GN⟩:=bJ GN;have LC:=Nat.le_of_ble_eq_true hb;unfold lim at LC;injection GN with GN;subst GN;obtain ⟨h1,h2,h3,h4⟩:=O8
    by_cases lO:tR=[]
    ·subst lO
     cases loc with
     |nil=>
      obtain ⟨h2,_⟩:=h2;subst h2;refine (empty none 0).mono fun e w' ⟨he,hw⟩ => ?_
      subst he;subst hw;exact ans _ _ c _ .nil _ [] NM ⟨rfl,⟨rfl,rfl⟩,rfl,rfl⟩
     |«at» b off cap=>
      obtain ⟨g1,g2,⟨cur,ty,g3,g4⟩,g5⟩:=h4;obtain ⟨a,cp,hv3,k1,k2,k3⟩:=h2;have hv3:v=.slice (some a) 0 cp:=hv3;subst hv3;have dM:b<w.heap.size:=(Array.getElem?_eq_some_iff.1 g3).1;refine (empty (some a) cp).mono fun e w' ⟨he,hw⟩ => ?_
      subst he;subst hw;exact ans _ _ (c.one b (.kO 0)) _ (.at b off cap) _ [] (NM.one ((hH.m b).2 ⟨_,g1,rfl⟩) dM) ⟨rfl,⟨a,cp,rfl,k1,k2,k3⟩,rfl,if_pos rfl,Nat.zero_le _,⟨cur,ty,g3,g4⟩,(ey.sh rfl).2 fun i x hi=>by simp at hi⟩
    ·cases loc with
     |nil=>exact absurd h4 lO
     |«at» b off cap=>
      obtain ⟨g1,g2,⟨cur,ty,g3,g4⟩,g5⟩:=h4;obtain ⟨a,cp,hv3,k1,k2,k3⟩:=h2;subst hv3;have abt:0<tR.length:=List.length_pos_iff.2 lO;have k1:tR.length≤cp:=k1;have ha:=k3 (by omega);have ha:a=⟨b,off,none⟩:=ha.trans (by rw [Nat.zero_mul];rfl);subst ha;have dM:b<w.heap.size:=(Array.getElem?_eq_some_iff.1 g3).1;have py:off+tR.length≤cur.size:=by
       have g2:tR.length≤cap:=g2;have g4:off+cap*1≤cur.size:=g4;omega
      have hlen:(cu tR).length=tR.length:=kR tR;have oY:=calls_of_every_depth fun D=>AnyS.slices_Compact_int_in L D b off cp (cu tR) w (HM g3 ((ey.sh rfl).1 g5)) (Nat.le_trans (Nat.le_of_eq (kR tR)) (Nat.le_trans LC (by decide))) (Nat.le_trans (Nat.le_of_eq (kR tR)) k1)
      rw [hf,hlen] at oY;have Ax:=NO (cu tR);rw [hlen] at Ax;refine oY.mono fun e w' ⟨he,q,hw⟩ => ?_
      subst he;rw [←grow_empty (putRow _ _ _ _ _)] at hw;subst hw;have hm:mu.m b:=(hH.m b).2 ⟨_,g1,rfl⟩;have hsl:off+(Lib.compact (cu tR)++List.replicate (tR.length-(Lib.compact (cu tR)).length) 0).length≤cur.size:=by
       rw [List.length_append,List.length_replicate];omega
      have EJ:FN w mu c (grow (putRow (Value.int .i64) (Sort.ahead w q) b off (Lib.compact (cu tR)++List.replicate (tR.length-(Lib.compact (cu tR)).length) 0).toArray) #[]):=NL hH hm _;refine ans _ _ (c.one b (.kO 0)) _ (.at b off cap) _ _ (EJ.one hm (Nat.lt_of_lt_of_le dM (EU _))) ⟨rfl,⟨_,cp,congrArg (fun n=>Value.slice (some ⟨b,off,none⟩) n cp) (ea _).symm,Nat.le_trans (Nat.le_of_eq (ea _)) (Nat.le_trans Ax k1),k2,k3⟩,rfl,if_pos rfl,?_,⟨_,ty,Cu g3 _,?_⟩,Ki g3 _ hsl (List.prefix_append _ _)⟩
      ·exact Nat.le_trans (Nat.le_of_eq (ea _)) (Nat.le_trans Ax g2)
      ·show off+cap*1≤_;simp only [_root_.Go.Sort.putCells,Array.size_mapIdx];exact g4
end Go.TM
