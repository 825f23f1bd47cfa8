/- slices.Sort and slices.Compact at whole numbers, of the kit's library of contracts, as functions of the tree machine. -/
import Derived.Test.YtlgnmloddedbaaaGreatLibWide
import Derived.Shelf.Sort.Plain
import Derived.Shelf.Slices.In.SortNone
import Derived.Shelf.Slices.In.CompactI
namespace Go.TM
open Go Go.RowKit Go.Proofs Go.Shelf Go.Sort
abbrev kO:RT:=.cons (.int .i64) .nil
def cE (xs:List (Int×Unit)):List Int:=xs.map (·.1)
def bK (zs:List Int):List (Int×Unit):=zs.map fun z=>(z,())
theorem dZ (zs:List Int):(bK zs).length=zs.length:=List.length_map ..
theorem ln (xs:List (Int×Unit)):(cE xs).length=xs.length:=List.length_map ..
theorem QQ (xs:List (Int×Unit)) (j:Nat) (h:j<(cE xs).length):(cE xs)[j]=(xs[j]'(by rw [ln] at h;exact h)).1:=List.getElem_map ..
theorem QR (zs:List Int) (j:Nat) (h:j<(bK zs).length):(bK zs)[j]=(zs[j]'(by rw [dZ] at h;exact h),()):=List.getElem_map ..
theorem IG {w:World} {ok:Nat→Prop} {b off:Nat} {cur:Array Value} {ty:TypeId} {xs:List (aO kO)} (hb:w.heap[b]?=some (.cells cur ty (0,0))) (hx:∀i x,xs[i]?=some x→fP w ok kO b (off+i*kO.width) x) :
  Holds (Value.int .i64) w b off (cE xs).toArray:=by
 intro j hj;have QS:j<(cE xs).length:=hj;have hlen:(cE xs).length=List.length (α:=aO kO) xs:=ln xs;have OW:j<List.length (α:=aO kO) xs:=by omega
 have h1:fP w ok (.cons (.int .i64) .nil) b (off+j*kO.width) (xs[j]'OW):=hx j _ (List.getElem?_eq_getElem OW);unfold fP at h1;obtain ⟨⟨v,h2,h3⟩,_⟩:=h1;have h3:=yS.1 h3;subst h3;have e:off+j*kO.width=off+j:=by show off+j*1=off+j;omega
 rw [e] at h2;refine ⟨?_,?_⟩
 ·rw [h2,getElem!_pos (cE xs).toArray j hj];exact congrArg (fun z=>some (Value.int .i64 z)) (QQ xs j QS).symm
 ·unfold World.frozen?;simp only [hb];simp
theorem Dn {w:World} {n:Nat} {os:Array Obj} {b off:Nat} {cur:Array Value} {ty:TypeId} (hb:w.heap[b]?=some (.cells cur ty (0,0))) (zs:List Int) :
  (grow (putRow (Value.int .i64) (Sort.ahead w n) b off zs.toArray) os).heap[b]?=some (.cells (_root_.Go.Sort.putCells (Value.int .i64) off zs.toArray cur) ty (0,0)):=by
 have dB:b<w.heap.size:=(Array.getElem?_eq_some_iff.1 hb).1;show (w.heap.modify b (onCells _)++os)[b]?=_;rw [Array.getElem?_append_left (by simpa using dB),Array.getElem?_modify,if_pos rfl,hb];rfl
theorem QT {w:World} {n:Nat} {os:Array Obj} {b off:Nat} (zs:List Int) {k:Nat} (hk:k<w.heap.size) (mn:k≠b) :
  (grow (putRow (Value.int .i64) (Sort.ahead w n) b off zs.toArray) os).heap[k]?=w.heap[k]?:=by
 show (w.heap.modify b (onCells _)++os)[k]?=_;rw [Array.getElem?_append_left (by simpa using hk),Array.getElem?_modify,if_neg (Ne.symm mn)]
theorem FO {w:World} {n:Nat} {os:Array Obj} {b off:Nat} (zs:List Int):w.heap.size≤(grow (putRow (Value.int .i64) (Sort.ahead w n) b off zs.toArray) os).heap.size:=by
 show w.heap.size≤(w.heap.modify b (onCells _)++os).size;rw [Array.size_append,Array.size_modify];omega
theorem OX {c:Cz} {w:World} {mu:Mu} {n:Nat} {os:Array Obj} {b off:Nat} (hH:Handed c w mu) (hm:mu.m b) (zs:List Int):Fx w mu c (grow (putRow (Value.int .i64) (Sort.ahead w n) b off zs.toArray) os):=
 ⟨fun b' l uY=>⟨Nat.lt_of_lt_of_le (hH.lt b' l uY) (FO zs),(hH.lb b' l uY).imp id fun hh=>.inr ((hH.m b').2 ⟨l,uY,hh⟩)⟩,fun b' _ uY=>.inr ((hH.ok b').2 uY),⟨rfl,rfl,rfl,FO zs⟩,fun k hk hkm=>QT zs hk (fun e=>hkm (e▸hm))⟩
theorem Lw {w:World} {ok:Nat→Prop} {n:Nat} {os:Array Obj} {b off:Nat} {cur:Array Value} {ty:TypeId} (hb:w.heap[b]?=some (.cells cur ty (0,0))) (zs:List Int) (hs:off+zs.length≤cur.size) {ys:List Int} (hy:ys <+: zs) :
  ∀i (x:aO kO),(show List (aO kO) from bK ys)[i]?=some x→fP (grow (putRow (Value.int .i64) (Sort.ahead w n) b off zs.toArray) os) ok kO b (off+i*kO.width) x:=by
 intro i x hi;have WU:i<(bK ys).length:=(List.getElem?_eq_some_iff.1 hi).1;have hil:i<ys.length:=by rw [dZ] at WU;exact WU
 have hiz:i<zs.length:=Nat.lt_of_lt_of_le hil hy.length_le;have hx:(bK ys)[i]=x:=(List.getElem?_eq_some_iff.1 hi).2;have Qw:x.1=ys[i]:=by
  rw [←hx];exact congrArg Prod.fst (QR ys i WU)
 have hyz:ys[i]=zs[i]:=by
  obtain ⟨t,rfl⟩:=hy;exact (List.getElem_append_left hil).symm
 have e:off+i*kO.width=off+i:=by show off+i*1=off+i;omega
 rw [e];show fP _ ok (.cons (.int .i64) .nil) b (off+i) x;unfold fP;refine ⟨⟨.int .i64 ys[i],?_,yS.2 (congrArg (Value.int .i64) Qw.symm)⟩,by unfold fP;trivial⟩;unfold World.cell?;simp only [Dn hb zs];have dB:off+i<cur.size:=by omega
 simp only [_root_.Go.Sort.putCells,Array.getElem?_mapIdx,Array.getElem?_eq_getElem dB,Option.map_some];rw [if_neg (by simp),Option.some.injEq,if_pos ⟨by omega,by simp;omega⟩,show off+i-off=i by omega,getElem!_pos _ i (by simpa using hiz)];simp [hyz]
theorem IH {p:AP} {gq:List AV} {x:aO (aM ([p].map some))} (h:iE [p] gq=some x):∃a,gq=[a]∧Lj p .nil a ()=some x:=by
 match gq,h with
 | [],h=>cases h
 | [a],h=>exact ⟨a,rfl,h⟩
 |a::b::l,h=>cases h
theorem QU {p:OP} {t:RT} {os:List OV} {y:aO t} {x:aO (pZ [p] t)} (h:fL [p] t os y=some x):∃o z,os=[o]∧we p o=some z∧x=(z,y):=by
 match os,h with
 | [],h=>cases h
 | [o],h=>
  unfold fL fL at h
  cases hc:we p o with
  |none=>rw [hc] at h;cases h
  |some z=>
   rw [hc] at h;injection h with h;exact ⟨o,z,rfl,hc,h.symm⟩
 |a::b::l,h=>
  exfalso
  unfold fL fL at h
  cases hc:we p a<;>rw [hc] at h<;>cases h
def II (xs:List (Int×Unit)):Option ((List (Int×Unit))×Unit):=bif Nat.ble xs.length lim then some (bK ((cE xs).mergeSort fun x y=>decide (x≤y)),()) else none
theorem QV {P:Program} {ρ:Ren} (L:Lays.n189 P ρ) {f:Nat} (hf:ρ.f 189=f) (Wn:∃fn,P.funcs[f]?=some fn∧(fn.name == "runtime.NumGoroutine")=false∧fn.body.isNone=false) :
  sm P f (ow [.io kO] [] (fun x=>II x.1)):=by
 refine ⟨?_,Wn⟩;intro c w mu lc gq args A y hH hA hs ho;unfold ow at hs
 cases hx:iE [.io kO] gq with
 |none=>rw [hx] at hs;cases hs
 |some x=>
  rw [hx] at hs;simp only [Option.some.injEq] at hs;subst hs;obtain ⟨a0,rfl,hq⟩:=IH hx;clear hx
  cases a0 with
  |val _ _=>cases hq
  |box _=>cases hq
  |dX _=>cases hq
  |io A0=>
   obtain ⟨v,l,ha,hv,hl⟩:=hA;have hl:l=[]:=hl;subst hl;have ha:args = #[v]:=Array.toList_inj.1 ha;subst ha;obtain ⟨r0,o0,uT,md0⟩:=A0;unfold Lj at hq;obtain ⟨Hq,N8⟩:=bM hq;clear hq;have Hq:=Md.xJ.1 Hq;subst Hq
   cases hc:ek kO uT with
   |none=>simp [hc] at N8
   |some xs=>
    simp only [hc] at N8;injection N8 with hq;obtain ⟨e,he⟩:=dh hc
    cases e
    have he:xs=uT:=he;rw [he] at hq;subst hq;have Hu:II uT=some y:=ho;unfold II at Hu;obtain ⟨hb,Hu⟩:=bM Hu;have MC:=Nat.le_of_ble_eq_true hb;unfold lim at MC;injection Hu with Hu;subst Hu;obtain ⟨h1,h2,h3,h4⟩:OwnAt c w (.dC 0 0) (lc 0 0) { r:=kO,own:=o0,xs:=uT } v:=hv;have h3:o0=true:=h3;subst h3;have SO:((cE uT).mergeSort fun x y=>decide (x≤y)).length=uT.length:=by rw [List.length_mergeSort];exact ln uT
    have fin:∀(w':World),Fx w mu c w'→OwnAt c w' (.dC 0 0) (lc 0 0) { r:=kO,own:=true,xs:=bK ((cE uT).mergeSort fun x y=>decide (x≤y)) } v→
      ∃v',Ending.returned (.tuple #[])=.returned v'∧∃c',Fx w mu c' w'∧wa c' w' [] v'∧kN c' w' lc 0 [.io { r:=kO,own:=true,xs:=uT }] [v] [.io { r:=kO,own:=true,xs:=bK ((cE uT).mergeSort fun x y=>decide (x≤y)) }]:=
     fun w' FB kM=>⟨_,rfl,c,FB,.inr ⟨by simp,#[],rfl,rfl⟩,_,_,rfl,rfl,(dZ _).trans SO,kM,rfl⟩
    have OY:Fx w mu c w:=⟨fun b l hb=>⟨hH.lt b l hb,(hH.lb b l hb).imp id fun hh=>.inr ((hH.m b).2 ⟨l,hb,hh⟩)⟩,fun b _ hb=>.inr ((hH.ok b).2 hb),⟨rfl,rfl,rfl,Nat.le_refl _⟩,fun _ _ _=>rfl⟩
    by_cases mn:uT=[]
    ·-- nothing to sort
     subst mn;have hz:∃a cp,v=.slice a 0 cp:=by
      unfold pX at h2
      split at h2
      ·exact ⟨none,0,h2.1⟩
      ·obtain ⟨a,cp,hv,_⟩:=h2;exact ⟨some a,cp,hv⟩
     obtain ⟨a,cp,rfl⟩:=hz;have ot:=Any.slices_Sort_int_none L a cp w;rw [hf] at ot;refine ot.mono fun e w' ⟨he,hw⟩ => ?_
     subst he;subst hw;refine fin w' OY ?_;have key:∀ys:List (aO kO),ys=[]→OwnAt c w' (.dC 0 0) (lc 0 0) { r:=kO,own:=true,xs:=ys } (.slice a 0 cp):=by
      intro ys e;subst e;exact ⟨h1,h2,rfl,h4⟩
     exact key _ (List.length_eq_zero_iff.1 ((dZ _).trans SO))
    ·generalize nZ:lc 0 0=loc at *
     cases loc with
     |nil=>exact absurd h4 mn
     |«at» b off cap=>
      obtain ⟨g1,g2,⟨cur,ty,g3,g4⟩,g5⟩:=h4;obtain ⟨a,cp,rfl,k1,k2,k3⟩:=h2;have adt:0<uT.length:=List.length_pos_iff.2 mn;have k1:uT.length≤cp:=k1;have ha:=k3 (by omega);have ha:a=⟨b,off,none⟩:=ha.trans (by rw [Nat.zero_mul];rfl);subst ha;have dB:b<w.heap.size:=(Array.getElem?_eq_some_iff.1 g3).1;have qY:off+uT.length≤cur.size:=by
       have g2:uT.length≤cap:=g2;have g4:off+cap*1≤cur.size:=g4;omega
      have ot:=Any.slices_Sort_int L b off cp (cE uT) w (IG g3 ((dY.sh rfl).1 g5)) dB (by rw [ln uT];omega);rw [hf] at ot;have hlen:(cE uT).length=uT.length:=ln uT;rw [hlen] at ot;refine ot.mono fun e w' ⟨he,n,os,hw⟩ => ?_
      subst he;subst hw;have hsl:off+((cE uT).mergeSort fun x y=>decide (x≤y)).length≤cur.size:=by rw [SO];exact qY
      have hm:mu.m b:=(hH.m b).2 ⟨_,g1,rfl⟩;refine fin _ (OX hH hm _) ?_;have OZ:(bK ((cE uT).mergeSort fun x y=>decide (x≤y))).length=uT.length:=(dZ _).trans SO;refine ⟨h1,⟨_,cp,congrArg (fun n=>Value.slice (some ⟨b,off,none⟩) n cp) OZ.symm,Nat.le_trans (Nat.le_of_eq OZ) k1,k2,k3⟩,rfl,g1,?_,⟨_,ty,Dn g3 _,?_⟩,(dY.sh rfl).2 (Lw g3 _ hsl (List.prefix_refl _))⟩
      ·exact Nat.le_trans (Nat.le_of_eq OZ) g2
      ·show off+cap*1≤_;simp only [_root_.Go.Sort.putCells,Array.size_mapIdx];exact g4
def ru (xs:List (Int×Unit)):Option ((List (Int×Unit))×Unit):=bif Nat.ble xs.length lim then some (bK (Lib.compact (cE xs)),()) else none
theorem O0 (zs:List Int):(Lib.compact zs).length≤zs.length:=by
 unfold Lib.compact Lib.compactUpTo;rw [List.length_map];exact Nat.le_trans (List.length_filter_le _ _) (by simp)
def Cz.one (c:Cz) (b:Nat) (l:Lb):Cz:={ c with own:=fun b'=>if b'=b then some l else c.own b' }
theorem Fx.one {c:Cz} {w w':World} {mu:Mu} {b:Nat} {l:Lb} (h:Fx w mu c w') (hm:mu.m b) (hb:b<w'.heap.size):Fx w mu (c.one b l) w':=by
 refine ⟨fun b' l' h' => ?_,fun b' dB h' => ?_,h.kept,h.old⟩
 ·have h':(if b'=b then some l else c.own b')=some l':=h'
  by_cases e:b'=b
  ·subst e;exact ⟨hb,.inr (.inr hm)⟩
  ·rw [if_neg e] at h';exact h.owned b' l' h'
 ·have h':(if b'=b then some l else c.own b')=none:=h'
  by_cases e:b'=b
  ·rw [if_pos e] at h';cases h'
  ·rw [if_neg e] at h';exact h.free b' dB h'
theorem Ko {P:Program} {ρ:Ren} (L:Lays2.n20 P ρ) {f:Nat} (hf:ρ.f 20=f) (Wn:∃fn,P.funcs[f]?=some fn∧(fn.name == "runtime.NumGoroutine")=false∧fn.body.isNone=false) :
  sm P f (ow [.val false [.own kO]] [{ src:=.tmp 0,agg:=false,ps:=[.own kO] }] (fun x=>ru x.1)):=by
 refine ⟨?_,Wn⟩;intro c w mu lc gq args A y hH hA hs ho;unfold ow at hs
 cases hx:iE [.val false [.own kO]] gq with
 |none=>rw [hx] at hs;cases hs
 |some x=>
  rw [hx] at hs;simp only [Option.some.injEq] at hs;subst hs;have OY:Fx w mu c w:=⟨fun b l hb=>⟨hH.lt b l hb,(hH.lb b l hb).imp id fun hh=>.inr ((hH.m b).2 ⟨l,hb,hh⟩)⟩,fun b _ hb=>.inr ((hH.ok b).2 hb),⟨rfl,rfl,rfl,Nat.le_refl _⟩,fun _ _ _=>rfl⟩;have empty:∀a cp,Calls P f #[.slice a 0 cp] w fun e w'=>e=.returned (.slice a 0 cp)∧w'=w:=fun a cp=>by
   have ot:=calls_of_every_depth fun D=>AnyS.slices_Compact_int_empty_in L D a cp w
   rw [hf] at ot;exact ot
  have ans:∀(os:List OV) (v:Value) (c':Cz) (w':World) (loc:Loc) (u:Value) (ys:List (aO kO)),Fx w mu c' w'→OwnAt c' w' (.kK 0) loc { r:=kO,own:=true,xs:=ys } u→
    ∃v',Ending.returned u=.returned v'∧∃c',Fx w mu c' w'∧wa c' w' [.one (.own { r:=kO,own:=true,xs:=ys })] v'∧kN c' w' lc 0 [.val false os] [v] []:=
   fun os v c' w' loc u ys hb kM=>⟨u,rfl,c',hb,.inl ⟨_,rfl,u,[],rfl,⟨u,[],rfl,⟨loc,kM⟩,rfl⟩,rfl⟩,rfl⟩
  obtain ⟨a0,rfl,hq⟩:=IH hx;clear hx
  cases a0 with
  |io _=>cases hq
  |box _=>cases hq
  |dX _=>cases hq
  |val ag os=>
  cases ag with
  |true=>cases hq
  |false=>
  obtain ⟨o,z,rfl,hz,MH⟩:=QU hq;clear hq
  cases o with
  |int _ _=>cases hz
  |bool _=>cases hz
  |str _=>cases hz
  |shr _ _=>cases hz
  |oe _ _=>cases hz
  |fn _ _ _=>cases hz
  |gJ=>
   obtain ⟨v,l,ha,hv,hl⟩:=hA;have hl:l=[]:=hl;subst hl;have ha:args = #[v]:=Array.toList_inj.1 ha;subst ha;obtain ⟨l',xM,_⟩:=hv;injection xM with xM _;subst xM;injection hz with hz;subst hz;subst MH;have Hu:ru []=some y:=ho;have hy:y=([],()):=by
    have:ru []=some ([],()):=rfl;rw [this] at Hu;injection Hu with Hu;exact Hu.symm
   subst hy;refine (empty none 0).mono fun e w' ⟨he,hw⟩ => ?_
   subst he;subst hw;exact ans _ _ c _ .nil _ [] OY ⟨rfl,⟨rfl,rfl⟩,rfl,rfl⟩
  |own A0=>
   obtain ⟨v,l,ha,hv,hl⟩:=hA;have hl:l=[]:=hl;subst hl;have ha:args = #[v]:=Array.toList_inj.1 ha;subst ha;obtain ⟨v1,l',xM,⟨loc,Qf⟩,_⟩:=hv;injection xM with xM _;subst xM;obtain ⟨r0,o0,uT,md0⟩:=A0;have hz:(bif md0.is .sh then ek kO uT else none)=some z:=hz;obtain ⟨Hq,hz⟩:=bM hz;have Hq:=Md.xJ.1 Hq;subst Hq
   cases hc:ek kO uT with
   |none=>rw [hc] at hz;cases hz
   |some xs=>
    have hzx:xs=z:=Option.some.inj (hc.symm.trans hz);obtain ⟨e,he⟩:=dh hc
    cases e
    have he:xs=uT:=he;rw [←hzx,he] at MH;subst MH;have Hu:ru uT=some y:=ho;unfold ru at Hu;obtain ⟨hb,Hu⟩:=bM Hu;have MC:=Nat.le_of_ble_eq_true hb;unfold lim at MC;injection Hu with Hu;subst Hu;obtain ⟨h1,h2,h3,h4⟩:=Qf
    by_cases mn:uT=[]
    ·subst mn
     cases loc with
     |nil=>
      obtain ⟨h2,_⟩:=h2;subst h2;refine (empty none 0).mono fun e w' ⟨he,hw⟩ => ?_
      subst he;subst hw;exact ans _ _ c _ .nil _ [] OY ⟨rfl,⟨rfl,rfl⟩,rfl,rfl⟩
     |«at» b off cap=>
      obtain ⟨g1,g2,⟨cur,ty,g3,g4⟩,g5⟩:=h4;obtain ⟨a,cp,hv3,k1,k2,k3⟩:=h2;have hv3:v=.slice (some a) 0 cp:=hv3;subst hv3;have dB:b<w.heap.size:=(Array.getElem?_eq_some_iff.1 g3).1;refine (empty (some a) cp).mono fun e w' ⟨he,hw⟩ => ?_
      subst he;subst hw;exact ans _ _ (c.one b (.kK 0)) _ (.at b off cap) _ [] (OY.one ((hH.m b).2 ⟨_,g1,rfl⟩) dB) ⟨rfl,⟨a,cp,rfl,k1,k2,k3⟩,rfl,if_pos rfl,Nat.zero_le _,⟨cur,ty,g3,g4⟩,(dY.sh rfl).2 fun i x hi=>by simp at hi⟩
    ·cases loc with
     |nil=>exact absurd h4 mn
     |«at» b off cap=>
      obtain ⟨g1,g2,⟨cur,ty,g3,g4⟩,g5⟩:=h4;obtain ⟨a,cp,hv3,k1,k2,k3⟩:=h2;subst hv3;have adt:0<uT.length:=List.length_pos_iff.2 mn;have k1:uT.length≤cp:=k1;have ha:=k3 (by omega);have ha:a=⟨b,off,none⟩:=ha.trans (by rw [Nat.zero_mul];rfl);subst ha;have dB:b<w.heap.size:=(Array.getElem?_eq_some_iff.1 g3).1;have qY:off+uT.length≤cur.size:=by
       have g2:uT.length≤cap:=g2;have g4:off+cap*1≤cur.size:=g4;omega
      have hlen:(cE uT).length=uT.length:=ln uT;have ot:=calls_of_every_depth fun D=>AnyS.slices_Compact_int_in L D b off cp (cE uT) w (IG g3 ((dY.sh rfl).1 g5)) (Nat.le_trans (Nat.le_of_eq (ln uT)) (Nat.le_trans MC (by decide))) (Nat.le_trans (Nat.le_of_eq (ln uT)) k1)
      rw [hf,hlen] at ot;have AG:=O0 (cE uT);rw [hlen] at AG;refine ot.mono fun e w' ⟨he,q,hw⟩ => ?_
      subst he;rw [←grow_empty (putRow _ _ _ _ _)] at hw;subst hw;have hm:mu.m b:=(hH.m b).2 ⟨_,g1,rfl⟩;have hsl:off+(Lib.compact (cE uT)++List.replicate (uT.length-(Lib.compact (cE uT)).length) 0).length≤cur.size:=by
       rw [List.length_append,List.length_replicate];omega
      have FB:Fx w mu c (grow (putRow (Value.int .i64) (Sort.ahead w q) b off (Lib.compact (cE uT)++List.replicate (uT.length-(Lib.compact (cE uT)).length) 0).toArray) #[]):=OX hH hm _;refine ans _ _ (c.one b (.kK 0)) _ (.at b off cap) _ _ (FB.one hm (Nat.lt_of_lt_of_le dB (FO _))) ⟨rfl,⟨_,cp,congrArg (fun n=>Value.slice (some ⟨b,off,none⟩) n cp) (dZ _).symm,Nat.le_trans (Nat.le_of_eq (dZ _)) (Nat.le_trans AG k1),k2,k3⟩,rfl,if_pos rfl,?_,⟨_,ty,Dn g3 _,?_⟩,Lw g3 _ hsl (List.prefix_append _ _)⟩
      ·exact Nat.le_trans (Nat.le_of_eq (dZ _)) (Nat.le_trans AG g2)
      ·show off+cap*1≤_;simp only [_root_.Go.Sort.putCells,Array.size_mapIdx];exact g4
end Go.TM
