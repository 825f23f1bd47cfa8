/- slices.Sort and slices.Compact at whole numbers, of the kit's library of contracts, as functions of the tree machine. -/
import Derived.Test.YtiljcjnnhkidbaaGreatLibWide
import Derived.Shelf.Sort.Plain
import Derived.Shelf.Slices.In.SortNone
import Derived.Shelf.Slices.In.CompactI
namespace Go.TM
open Go Go.RowKit Go.Proofs Go.Shelf Go.Sort
abbrev km:RT:=.cons (.int .i64) .nil
def cq (xs:List (Int×Unit)):List Int:=xs.map (·.1)
def bF (zs:List Int):List (Int×Unit):=zs.map fun z=>(z,())
theorem dP (zs:List Int):(bF zs).length=zs.length:=List.length_map ..
theorem kD (xs:List (Int×Unit)):(cq xs).length=xs.length:=List.length_map ..
theorem O8 (xs:List (Int×Unit)) (j:Nat) (h:j<(cq xs).length):(cq xs)[j]=(xs[j]'(by rw [kD] at h;exact h)).1:=List.getElem_map ..
theorem O9 (zs:List Int) (j:Nat) (h:j<(bF zs).length):(bF zs)[j]=(zs[j]'(by rw [dP] at h;exact h),()):=List.getElem_map ..
theorem HC {w:World} {ok:Nat→Prop} {b off:Nat} {cur:Array Value} {ty:TypeId} {xs:List (aO km)} (hb:w.heap[b]?=some (.cells cur ty (0,0))) (hx:∀i x,xs[i]?=some x→fx w ok km b (off+i*km.width) x) :
  Holds (Value.int .i64) w b off (cq xs).toArray:=by
 intro j hj;have Xt:j<(cq xs).length:=hj;have hlen:(cq xs).length=List.length (α:=aO km) xs:=kD xs;have Ve:j<List.length (α:=aO km) xs:=by omega
 have h1:fx w ok (.cons (.int .i64) .nil) b (off+j*km.width) (xs[j]'Ve):=hx j _ (List.getElem?_eq_getElem Ve);unfold fx at h1;obtain ⟨⟨v,h2,h3⟩,_⟩:=h1;have h3:=x7.1 h3;subst h3;have e:off+j*km.width=off+j:=by show off+j*1=off+j;omega
 rw [e] at h2;refine ⟨?_,?_⟩
 ·rw [h2,getElem!_pos (cq xs).toArray j hj];exact congrArg (fun z=>some (Value.int .i64 z)) (O8 xs j Xt).symm
 ·unfold World.frozen?;simp only [hb];simp
theorem Ck {w:World} {n:Nat} {os:Array Obj} {b off:Nat} {cur:Array Value} {ty:TypeId} (hb:w.heap[b]?=some (.cells cur ty (0,0))) (zs:List Int) :
  (grow (putRow (Value.int .i64) (Sort.ahead w n) b off zs.toArray) os).heap[b]?=some (.cells (_root_.Go.Sort.putCells (Value.int .i64) off zs.toArray cur) ty (0,0)):=by
 have dS:b<w.heap.size:=(Array.getElem?_eq_some_iff.1 hb).1;show (w.heap.modify b (onCells _)++os)[b]?=_;rw [Array.getElem?_append_left (by simpa using dS),Array.getElem?_modify,if_pos rfl,hb];rfl
theorem Pb {w:World} {n:Nat} {os:Array Obj} {b off:Nat} (zs:List Int) {k:Nat} (hk:k<w.heap.size) (mK:k≠b) :
  (grow (putRow (Value.int .i64) (Sort.ahead w n) b off zs.toArray) os).heap[k]?=w.heap[k]?:=by
 show (w.heap.modify b (onCells _)++os)[k]?=_;rw [Array.getElem?_append_left (by simpa using hk),Array.getElem?_modify,if_neg (Ne.symm mK)]
theorem EH {w:World} {n:Nat} {os:Array Obj} {b off:Nat} (zs:List Int):w.heap.size≤(grow (putRow (Value.int .i64) (Sort.ahead w n) b off zs.toArray) os).heap.size:=by
 show w.heap.size≤(w.heap.modify b (onCells _)++os).size;rw [Array.size_append,Array.size_modify];omega
theorem No {c:Cz} {w:World} {mu:Mu} {n:Nat} {os:Array Obj} {b off:Nat} (hH:Handed c w mu) (hm:mu.m b) (zs:List Int):Fx w mu c (grow (putRow (Value.int .i64) (Sort.ahead w n) b off zs.toArray) os):=
 ⟨fun b' l tS=>⟨Nat.lt_of_lt_of_le (hH.lt b' l tS) (EH zs),(hH.lb b' l tS).imp id fun hh=>.inr ((hH.m b').2 ⟨l,tS,hh⟩)⟩,fun b' _ tS=>.inr ((hH.ok b').2 tS),⟨rfl,rfl,rfl,EH zs⟩,fun k hk hkm=>Pb zs hk (fun e=>hkm (e▸hm))⟩
theorem J8 {w:World} {ok:Nat→Prop} {n:Nat} {os:Array Obj} {b off:Nat} {cur:Array Value} {ty:TypeId} (hb:w.heap[b]?=some (.cells cur ty (0,0))) (zs:List Int) (hs:off+zs.length≤cur.size) {ys:List Int} (hy:ys <+: zs) :
  ∀i (x:aO km),(show List (aO km) from bF ys)[i]?=some x→fx (grow (putRow (Value.int .i64) (Sort.ahead w n) b off zs.toArray) os) ok km b (off+i*km.width) x:=by
 intro i x hi;have RG:i<(bF ys).length:=(List.getElem?_eq_some_iff.1 hi).1;have hil:i<ys.length:=by rw [dP] at RG;exact RG
 have hiz:i<zs.length:=Nat.lt_of_lt_of_le hil hy.length_le;have hx:(bF ys)[i]=x:=(List.getElem?_eq_some_iff.1 hi).2;have OM:x.1=ys[i]:=by
  rw [←hx];exact congrArg Prod.fst (O9 ys i RG)
 have hyz:ys[i]=zs[i]:=by
  obtain ⟨t,rfl⟩:=hy;exact (List.getElem_append_left hil).symm
 have e:off+i*km.width=off+i:=by show off+i*1=off+i;omega
 rw [e];show fx _ ok (.cons (.int .i64) .nil) b (off+i) x;unfold fx;refine ⟨⟨.int .i64 ys[i],?_,x7.2 (congrArg (Value.int .i64) OM.symm)⟩,by unfold fx;trivial⟩;unfold World.cell?;simp only [Ck hb zs];have dS:off+i<cur.size:=by omega
 simp only [_root_.Go.Sort.putCells,Array.getElem?_mapIdx,Array.getElem?_eq_getElem dS,Option.map_some];rw [if_neg (by simp),Option.some.injEq,if_pos ⟨by omega,by simp;omega⟩,show off+i-off=i by omega,getElem!_pos _ i (by simpa using hiz)];simp [hyz]
theorem HD {p:AP} {fP:List AV} {x:aO (aH ([p].map some))} (h:gU [p] fP=some x):∃a,fP=[a]∧JU p .nil a ()=some x:=by
 match fP,h with
 | [],h=>cases h
 | [a],h=>exact ⟨a,rfl,h⟩
 |a::b::l,h=>cases h
theorem Pc {p:OP} {t:RT} {os:List OV} {y:aO t} {x:aO (oE [p] t)} (h:fp [p] t os y=some x):∃o z,os=[o]∧ve p o=some z∧x=(z,y):=by
 match os,h with
 | [],h=>cases h
 | [o],h=>
  unfold fp fp at h
  cases hc:ve p o with
  |none=>rw [hc] at h;cases h
  |some z=>
   rw [hc] at h;injection h with h;exact ⟨o,z,rfl,hc,h.symm⟩
 |a::b::l,h=>
  exfalso
  unfold fp fp at h
  cases hc:ve p a<;>rw [hc] at h<;>cases h
def HE (xs:List (Int×Unit)):Option ((List (Int×Unit))×Unit):=bif Nat.ble xs.length lim then some (bF ((cq xs).mergeSort fun x y=>decide (x≤y)),()) else none
theorem Pd {P:Program} {ρ:Ren} (L:Lays.n189 P ρ) {f:Nat} (hf:ρ.f 189=f) (T1:∃fn,P.funcs[f]?=some fn∧(fn.name == "runtime.NumGoroutine")=false∧fn.body.isNone=false) :
  tM P f (oG [.io km] [] (fun x=>HE x.1)):=by
 refine ⟨?_,T1⟩;intro c w mu lc fP args A y hH hA hs ho;unfold oG at hs
 cases hx:gU [.io km] fP with
 |none=>rw [hx] at hs;cases hs
 |some x=>
  rw [hx] at hs;simp only [Option.some.injEq] at hs;subst hs;obtain ⟨a0,rfl,hq⟩:=HD hx;clear hx
  cases a0 with
  |val _ _=>cases hq
  |box _=>cases hq
  |dO _=>cases hq
  |io A0=>
   obtain ⟨v,l,ha,hv,hl⟩:=hA;have hl:l=[]:=hl;subst hl;have ha:args = #[v]:=Array.toList_inj.1 ha;subst ha;obtain ⟨r0,o0,tL,md0⟩:=A0;unfold JU at hq;obtain ⟨Gn,MC⟩:=bH hq;clear hq;have Gn:=Md.wQ.1 Gn;subst Gn
   cases hc:eb km tL with
   |none=>simp [hc] at MC
   |some xs=>
    simp only [hc] at MC;injection MC with hq;obtain ⟨e,he⟩:=cS hc
    cases e
    have he:xs=tL:=he;rw [he] at hq;subst hq;have Gr:HE tL=some y:=ho;unfold HE at Gr;obtain ⟨hb,Gr⟩:=bH Gr;have Lj:=Nat.le_of_ble_eq_true hb;unfold lim at Lj;injection Gr with Gr;subst Gr;obtain ⟨h1,h2,h3,h4⟩:OwnAt c w (.dw 0 0) (lc 0 0) { r:=km,own:=o0,xs:=tL } v:=hv;have h3:o0=true:=h3;subst h3;have QZ:((cq tL).mergeSort fun x y=>decide (x≤y)).length=tL.length:=by rw [List.length_mergeSort];exact kD tL
    have fin:∀(w':World),Fx w mu c w'→OwnAt c w' (.dw 0 0) (lc 0 0) { r:=km,own:=true,xs:=bF ((cq tL).mergeSort fun x y=>decide (x≤y)) } v→
      ∃v',Ending.returned (.tuple #[])=.returned v'∧∃c',Fx w mu c' w'∧u9 c' w' [] v'∧kj c' w' lc 0 [.io { r:=km,own:=true,xs:=tL }] [v] [.io { r:=km,own:=true,xs:=bF ((cq tL).mergeSort fun x y=>decide (x≤y)) }]:=
     fun w' Ew ki=>⟨_,rfl,c,Ew,.inr ⟨by simp,#[],rfl,rfl⟩,_,_,rfl,rfl,(dP _).trans QZ,ki,rfl⟩
    have Np:Fx w mu c w:=⟨fun b l hb=>⟨hH.lt b l hb,(hH.lb b l hb).imp id fun hh=>.inr ((hH.m b).2 ⟨l,hb,hh⟩)⟩,fun b _ hb=>.inr ((hH.ok b).2 hb),⟨rfl,rfl,rfl,Nat.le_refl _⟩,fun _ _ _=>rfl⟩
    by_cases mK:tL=[]
    ·-- nothing to sort
     subst mK;have hz:∃a cp,v=.slice a 0 cp:=by
      unfold oB at h2
      split at h2
      ·exact ⟨none,0,h2.1⟩
      ·obtain ⟨a,cp,hv,_⟩:=h2;exact ⟨some a,cp,hv⟩
     obtain ⟨a,cp,rfl⟩:=hz;have oD:=Any.slices_Sort_int_none L a cp w;rw [hf] at oD;refine oD.mono fun e w' ⟨he,hw⟩ => ?_
     subst he;subst hw;refine fin w' Np ?_;have key:∀ys:List (aO km),ys=[]→OwnAt c w' (.dw 0 0) (lc 0 0) { r:=km,own:=true,xs:=ys } (.slice a 0 cp):=by
      intro ys e;subst e;exact ⟨h1,h2,rfl,h4⟩
     exact key _ (List.length_eq_zero_iff.1 ((dP _).trans QZ))
    ·generalize m9:lc 0 0=loc at *
     cases loc with
     |nil=>exact absurd h4 mK
     |«at» b off cap=>
      obtain ⟨g1,g2,⟨cur,ty,g3,g4⟩,g5⟩:=h4;obtain ⟨a,cp,rfl,k1,k2,k3⟩:=h2;have aaB:0<tL.length:=List.length_pos_iff.2 mK;have k1:tL.length≤cp:=k1;have ha:=k3 (by omega);have ha:a=⟨b,off,none⟩:=ha.trans (by rw [Nat.zero_mul];rfl);subst ha;have dS:b<w.heap.size:=(Array.getElem?_eq_some_iff.1 g3).1;have oU:off+tL.length≤cur.size:=by
       have g2:tL.length≤cap:=g2;have g4:off+cap*1≤cur.size:=g4;omega
      have oD:=Any.slices_Sort_int L b off cp (cq tL) w (HC g3 ((dU.sh rfl).1 g5)) dS (by rw [kD tL];omega);rw [hf] at oD;have hlen:(cq tL).length=tL.length:=kD tL;rw [hlen] at oD;refine oD.mono fun e w' ⟨he,n,os,hw⟩ => ?_
      subst he;subst hw;have hsl:off+((cq tL).mergeSort fun x y=>decide (x≤y)).length≤cur.size:=by rw [QZ];exact oU
      have hm:mu.m b:=(hH.m b).2 ⟨_,g1,rfl⟩;refine fin _ (No hH hm _) ?_;have Nq:(bF ((cq tL).mergeSort fun x y=>decide (x≤y))).length=tL.length:=(dP _).trans QZ;refine ⟨h1,⟨_,cp,congrArg (fun n=>Value.slice (some ⟨b,off,none⟩) n cp) Nq.symm,Nat.le_trans (Nat.le_of_eq Nq) k1,k2,k3⟩,rfl,g1,?_,⟨_,ty,Ck g3 _,?_⟩,(dU.sh rfl).2 (J8 g3 _ hsl (List.prefix_refl _))⟩
      ·exact Nat.le_trans (Nat.le_of_eq Nq) g2
      ·show off+cap*1≤_;simp only [_root_.Go.Sort.putCells,Array.size_mapIdx];exact g4
def pX (xs:List (Int×Unit)):Option ((List (Int×Unit))×Unit):=bif Nat.ble xs.length lim then some (bF (Lib.compact (cq xs)),()) else none
theorem Nr (zs:List Int):(Lib.compact zs).length≤zs.length:=by
 unfold Lib.compact Lib.compactUpTo;rw [List.length_map];exact Nat.le_trans (List.length_filter_le _ _) (by simp)
def Cz.one (c:Cz) (b:Nat) (l:Lb):Cz:={ c with own:=fun b'=>if b'=b then some l else c.own b' }
theorem Fx.one {c:Cz} {w w':World} {mu:Mu} {b:Nat} {l:Lb} (h:Fx w mu c w') (hm:mu.m b) (hb:b<w'.heap.size):Fx w mu (c.one b l) w':=by
 refine ⟨fun b' l' h' => ?_,fun b' dS h' => ?_,h.kept,h.old⟩
 ·have h':(if b'=b then some l else c.own b')=some l':=h'
  by_cases e:b'=b
  ·subst e;exact ⟨hb,.inr (.inr hm)⟩
  ·rw [if_neg e] at h';exact h.owned b' l' h'
 ·have h':(if b'=b then some l else c.own b')=none:=h'
  by_cases e:b'=b
  ·rw [if_pos e] at h';cases h'
  ·rw [if_neg e] at h';exact h.free b' dS h'
theorem I2 {P:Program} {ρ:Ren} (L:Lays2.n20 P ρ) {f:Nat} (hf:ρ.f 20=f) (T1:∃fn,P.funcs[f]?=some fn∧(fn.name == "runtime.NumGoroutine")=false∧fn.body.isNone=false) :
  tM P f (oG [.val false [.own km]] [{ src:=.tmp 0,agg:=false,ps:=[.own km] }] (fun x=>pX x.1)):=by
 refine ⟨?_,T1⟩;intro c w mu lc fP args A y hH hA hs ho;unfold oG at hs
 cases hx:gU [.val false [.own km]] fP with
 |none=>rw [hx] at hs;cases hs
 |some x=>
  rw [hx] at hs;simp only [Option.some.injEq] at hs;subst hs;have Np:Fx w mu c w:=⟨fun b l hb=>⟨hH.lt b l hb,(hH.lb b l hb).imp id fun hh=>.inr ((hH.m b).2 ⟨l,hb,hh⟩)⟩,fun b _ hb=>.inr ((hH.ok b).2 hb),⟨rfl,rfl,rfl,Nat.le_refl _⟩,fun _ _ _=>rfl⟩;have empty:∀a cp,Calls P f #[.slice a 0 cp] w fun e w'=>e=.returned (.slice a 0 cp)∧w'=w:=fun a cp=>by
   have oD:=calls_of_every_depth fun D=>AnyS.slices_Compact_int_empty_in L D a cp w
   rw [hf] at oD;exact oD
  have ans:∀(os:List OV) (v:Value) (c':Cz) (w':World) (loc:Loc) (u:Value) (ys:List (aO km)),Fx w mu c' w'→OwnAt c' w' (.ky 0) loc { r:=km,own:=true,xs:=ys } u→
    ∃v',Ending.returned u=.returned v'∧∃c',Fx w mu c' w'∧u9 c' w' [.one (.own { r:=km,own:=true,xs:=ys })] v'∧kj c' w' lc 0 [.val false os] [v] []:=
   fun os v c' w' loc u ys hb ki=>⟨u,rfl,c',hb,.inl ⟨_,rfl,u,[],rfl,⟨u,[],rfl,⟨loc,ki⟩,rfl⟩,rfl⟩,rfl⟩
  obtain ⟨a0,rfl,hq⟩:=HD hx;clear hx
  cases a0 with
  |io _=>cases hq
  |box _=>cases hq
  |dO _=>cases hq
  |val ag os=>
  cases ag with
  |true=>cases hq
  |false=>
  obtain ⟨o,z,rfl,hz,Lp⟩:=Pc hq;clear hq
  cases o with
  |int _ _=>cases hz
  |bool _=>cases hz
  |str _=>cases hz
  |shr _ _=>cases hz
  |nK _ _=>cases hz
  |fn _ _ _=>cases hz
  |gg=>
   obtain ⟨v,l,ha,hv,hl⟩:=hA;have hl:l=[]:=hl;subst hl;have ha:args = #[v]:=Array.toList_inj.1 ha;subst ha;obtain ⟨l',wU,_⟩:=hv;injection wU with wU _;subst wU;injection hz with hz;subst hz;subst Lp;have Gr:pX []=some y:=ho;have hy:y=([],()):=by
    have:pX []=some ([],()):=rfl;rw [this] at Gr;injection Gr with Gr;exact Gr.symm
   subst hy;refine (empty none 0).mono fun e w' ⟨he,hw⟩ => ?_
   subst he;subst hw;exact ans _ _ c _ .nil _ [] Np ⟨rfl,⟨rfl,rfl⟩,rfl,rfl⟩
  |own A0=>
   obtain ⟨v,l,ha,hv,hl⟩:=hA;have hl:l=[]:=hl;subst hl;have ha:args = #[v]:=Array.toList_inj.1 ha;subst ha;obtain ⟨v1,l',wU,⟨loc,Oy⟩,_⟩:=hv;injection wU with wU _;subst wU;obtain ⟨r0,o0,tL,md0⟩:=A0;have hz:(bif md0.is .sh then eb km tL else none)=some z:=hz;obtain ⟨Gn,hz⟩:=bH hz;have Gn:=Md.wQ.1 Gn;subst Gn
   cases hc:eb km tL with
   |none=>rw [hc] at hz;cases hz
   |some xs=>
    have hzx:xs=z:=Option.some.inj (hc.symm.trans hz);obtain ⟨e,he⟩:=cS hc
    cases e
    have he:xs=tL:=he;rw [←hzx,he] at Lp;subst Lp;have Gr:pX tL=some y:=ho;unfold pX at Gr;obtain ⟨hb,Gr⟩:=bH Gr;have Lj:=Nat.le_of_ble_eq_true hb;unfold lim at Lj;injection Gr with Gr;subst Gr;obtain ⟨h1,h2,h3,h4⟩:=Oy
    by_cases mK:tL=[]
    ·subst mK
     cases loc with
     |nil=>
      obtain ⟨h2,_⟩:=h2;subst h2;refine (empty none 0).mono fun e w' ⟨he,hw⟩ => ?_
      subst he;subst hw;exact ans _ _ c _ .nil _ [] Np ⟨rfl,⟨rfl,rfl⟩,rfl,rfl⟩
     |«at» b off cap=>
      obtain ⟨g1,g2,⟨cur,ty,g3,g4⟩,g5⟩:=h4;obtain ⟨a,cp,hv3,k1,k2,k3⟩:=h2;have hv3:v=.slice (some a) 0 cp:=hv3;subst hv3;have dS:b<w.heap.size:=(Array.getElem?_eq_some_iff.1 g3).1;refine (empty (some a) cp).mono fun e w' ⟨he,hw⟩ => ?_
      subst he;subst hw;exact ans _ _ (c.one b (.ky 0)) _ (.at b off cap) _ [] (Np.one ((hH.m b).2 ⟨_,g1,rfl⟩) dS) ⟨rfl,⟨a,cp,rfl,k1,k2,k3⟩,rfl,if_pos rfl,Nat.zero_le _,⟨cur,ty,g3,g4⟩,(dU.sh rfl).2 fun i x hi=>by simp at hi⟩
    ·cases loc with
     |nil=>exact absurd h4 mK
     |«at» b off cap=>
      obtain ⟨g1,g2,⟨cur,ty,g3,g4⟩,g5⟩:=h4;obtain ⟨a,cp,hv3,k1,k2,k3⟩:=h2;subst hv3;have aaB:0<tL.length:=List.length_pos_iff.2 mK;have k1:tL.length≤cp:=k1;have ha:=k3 (by omega);have ha:a=⟨b,off,none⟩:=ha.trans (by rw [Nat.zero_mul];rfl);subst ha;have dS:b<w.heap.size:=(Array.getElem?_eq_some_iff.1 g3).1;have oU:off+tL.length≤cur.size:=by
       have g2:tL.length≤cap:=g2;have g4:off+cap*1≤cur.size:=g4;omega
      have hlen:(cq tL).length=tL.length:=kD tL;have oD:=calls_of_every_depth fun D=>AnyS.slices_Compact_int_in L D b off cp (cq tL) w (HC g3 ((dU.sh rfl).1 g5)) (Nat.le_trans (Nat.le_of_eq (kD tL)) (Nat.le_trans Lj (by decide))) (Nat.le_trans (Nat.le_of_eq (kD tL)) k1)
      rw [hf,hlen] at oD;have Ap:=Nr (cq tL);rw [hlen] at Ap;refine oD.mono fun e w' ⟨he,q,hw⟩ => ?_
      subst he;rw [←grow_empty (putRow _ _ _ _ _)] at hw;subst hw;have hm:mu.m b:=(hH.m b).2 ⟨_,g1,rfl⟩;have hsl:off+(Lib.compact (cq tL)++List.replicate (tL.length-(Lib.compact (cq tL)).length) 0).length≤cur.size:=by
       rw [List.length_append,List.length_replicate];omega
      have Ew:Fx w mu c (grow (putRow (Value.int .i64) (Sort.ahead w q) b off (Lib.compact (cq tL)++List.replicate (tL.length-(Lib.compact (cq tL)).length) 0).toArray) #[]):=No hH hm _;refine ans _ _ (c.one b (.ky 0)) _ (.at b off cap) _ _ (Ew.one hm (Nat.lt_of_lt_of_le dS (EH _))) ⟨rfl,⟨_,cp,congrArg (fun n=>Value.slice (some ⟨b,off,none⟩) n cp) (dP _).symm,Nat.le_trans (Nat.le_of_eq (dP _)) (Nat.le_trans Ap k1),k2,k3⟩,rfl,if_pos rfl,?_,⟨_,ty,Ck g3 _,?_⟩,J8 g3 _ hsl (List.prefix_append _ _)⟩
      ·exact Nat.le_trans (Nat.le_of_eq (dP _)) (Nat.le_trans Ap g2)
      ·show off+cap*1≤_;simp only [_root_.Go.Sort.putCells,Array.size_mapIdx];exact g4
end Go.TM
