/- slices.Sort and slices.Compact at whole numbers, of the kit's library of contracts, as functions of the tree machine. -/
import Derived.Test.YtiljcjnnhkidbaaGreatLibWide
import Derived.Shelf.Sort.Plain
import Derived.Shelf.Slices.In.SortNone
import Derived.Shelf.Slices.In.CompactI
namespace Go.TM
open Go Go.RowKit Go.Proofs Go.Shelf Go.Sort
abbrev iS : RT := .cons (.int .i64) .nil
def bC (xs : List (Int × Unit)) : List Int := xs.map (·.1)
def aV (zs : List Int) : List (Int × Unit) := zs.map fun z => (z, ())
theorem cR (zs : List Int) : (aV zs).length = zs.length := List.length_map ..
theorem jm (xs : List (Int × Unit)) : (bC xs).length = xs.length := List.length_map ..
theorem JC (xs : List (Int × Unit)) (j : Nat) (h : j < (bC xs).length) : (bC xs)[j] = (xs[j]'(by rw [jm] at h; exact h)).1 := List.getElem_map ..
theorem JD (zs : List Int) (j : Nat) (h : j < (aV zs).length) : (aV zs)[j] = (zs[j]'(by rw [cR] at h; exact h), ()) := List.getElem_map ..
theorem DG {w : World} {ok : Nat → Prop} {b off : Nat} {cur : Array Value} {ty : TypeId} {xs : List (aq iS)} (hb : w.heap[b]? = some (.cells cur ty (0, 0))) (hx : ∀ i x, xs[i]? = some x → dw w ok iS b (off + i * iS.width) x) :
   Holds (Value.int .i64) w b off (bC xs).toArray := by
 intro j hj; have Pu : j < (bC xs).length := hj; have hlen : (bC xs).length = List.length (α := aq iS) xs := jm xs; have RD : j < List.length (α := aq iS) xs := by omega
 have h1 : dw w ok (.cons (.int .i64) .nil) b (off + j * iS.width) (xs[j]'RD) := hx j _ (List.getElem?_eq_getElem RD); unfold dw at h1; obtain ⟨⟨v, h2, h3⟩, _⟩ := h1; have h3 := rD.1 h3; subst h3; have e : off + j * iS.width = off + j := by show off + j * 1 = off + j; omega
 rw [e] at h2; refine ⟨?_, ?_⟩
 · rw [h2, getElem!_pos (bC xs).toArray j hj]; exact congrArg (fun z => some (Value.int .i64 z)) (JC xs j Pu).symm
 · unfold World.frozen?; simp only [hb]; simp
theorem ym {w : World} {n : Nat} {os : Array Obj} {b off : Nat} {cur : Array Value} {ty : TypeId} (hb : w.heap[b]? = some (.cells cur ty (0, 0))) (zs : List Int) :
   (grow (putRow (Value.int .i64) (Sort.ahead w n) b off zs.toArray) os).heap[b]? = some (.cells (_root_.Go.Sort.putCells (Value.int .i64) off zs.toArray cur) ty (0, 0)) := by
 have dm : b < w.heap.size := (Array.getElem?_eq_some_iff.1 hb).1; show (w.heap.modify b (onCells _) ++ os)[b]? = _; rw [Array.getElem?_append_left (by simpa using dm), Array.getElem?_modify, if_pos rfl, hb]; rfl
theorem JE {w : World} {n : Nat} {os : Array Obj} {b off : Nat} (zs : List Int) {k : Nat} (hk : k < w.heap.size) (gW : k ≠ b) :
   (grow (putRow (Value.int .i64) (Sort.ahead w n) b off zs.toArray) os).heap[k]? = w.heap[k]? := by
 show (w.heap.modify b (onCells _) ++ os)[k]? = _; rw [Array.getElem?_append_left (by simpa using hk), Array.getElem?_modify, if_neg (Ne.symm gW)]
theorem A3 {w : World} {n : Nat} {os : Array Obj} {b off : Nat} (zs : List Int) : w.heap.size ≤ (grow (putRow (Value.int .i64) (Sort.ahead w n) b off zs.toArray) os).heap.size := by
 show w.heap.size ≤ (w.heap.modify b (onCells _) ++ os).size; rw [Array.size_append, Array.size_modify]; omega
theorem H0 {c : Cz} {w : World} {mu : Mu} {n : Nat} {os : Array Obj} {b off : Nat} (hH : Handed c w mu) (hm : mu.m b) (zs : List Int) : By w mu c (grow (putRow (Value.int .i64) (Sort.ahead w n) b off zs.toArray) os) :=
 ⟨fun b' l mo => ⟨Nat.lt_of_lt_of_le (hH.lt b' l mo) (A3 zs), (hH.lb b' l mo).imp id fun hh => .inr ((hH.m b').2 ⟨l, mo, hh⟩)⟩, fun b' _ mo => .inr ((hH.ok b').2 mo), ⟨rfl, rfl, rfl, A3 zs⟩, fun k hk hkm => JE zs hk (fun e => hkm (e ▸ hm))⟩
theorem FA {w : World} {ok : Nat → Prop} {n : Nat} {os : Array Obj} {b off : Nat} {cur : Array Value} {ty : TypeId} (hb : w.heap[b]? = some (.cells cur ty (0, 0))) (zs : List Int) (hs : off + zs.length ≤ cur.size) {ys : List Int} (hy : ys <+: zs) :
   ∀ i (x : aq iS), (show List (aq iS) from aV ys)[i]? = some x → dw (grow (putRow (Value.int .i64) (Sort.ahead w n) b off zs.toArray) os) ok iS b (off + i * iS.width) x := by
 intro i x hi; have Ro : i < (aV ys).length := (List.getElem?_eq_some_iff.1 hi).1; have hil : i < ys.length := by rw [cR] at Ro; exact Ro
 have hiz : i < zs.length := Nat.lt_of_lt_of_le hil hy.length_le; have hx : (aV ys)[i] = x := (List.getElem?_eq_some_iff.1 hi).2; have I8 : x.1 = ys[i] := by
   rw [← hx]; exact congrArg Prod.fst (JD ys i Ro)
 have hyz : ys[i] = zs[i] := by
   obtain ⟨t, rfl⟩ := hy; exact (List.getElem_append_left hil).symm
 have e : off + i * iS.width = off + i := by show off + i * 1 = off + i; omega
 rw [e]; show dw _ ok (.cons (.int .i64) .nil) b (off + i) x; unfold dw; refine ⟨⟨.int .i64 ys[i], ?_, rD.2 (congrArg (Value.int .i64) I8.symm)⟩, by unfold dw; trivial⟩; unfold World.cell?; simp only [ym hb zs]; have dm : off + i < cur.size := by omega
 simp only [_root_.Go.Sort.putCells, Array.getElem?_mapIdx, Array.getElem?_eq_getElem dm, Option.map_some]; rw [if_neg (by simp), Option.some.injEq, if_pos ⟨by omega, by simp; omega⟩, show off + i - off = i by omega, getElem!_pos _ i (by simpa using hiz)]; simp [hyz]
theorem DH {p : AP} {eg : List AV} {x : aq (az ([p].map some))} (h : fF [p] eg = some x) : ∃ a, eg = [a] ∧ Fj p .nil a () = some x := by
 match eg, h with
 | [], h => cases h
 | [a], h => exact ⟨a, rfl, h⟩
 | a :: b :: l, h => cases h
theorem JF {p : OP} {t : RT} {os : List OV} {y : aq t} {x : aq (my [p] t)} (h : dW [p] t os y = some x) : ∃ o z, os = [o] ∧ rN p o = some z ∧ x = (z, y) := by
 match os, h with
 | [], h => cases h
 | [o], h =>
   unfold dW dW at h
   cases hc : rN p o with
   | none => rw [hc] at h; cases h
   | some z =>
     rw [hc] at h; injection h with h; exact ⟨o, z, rfl, hc, h.symm⟩
 | a :: b :: l, h =>
   exfalso
   unfold dW dW at h
   cases hc : rN p a <;> rw [hc] at h <;> cases h
def DI (xs : List (Int × Unit)) : Option ((List (Int × Unit)) × Unit) := bif Nat.ble xs.length lim then some (aV ((bC xs).mergeSort fun x y => decide (x ≤ y)), ()) else none
theorem JG {P : Program} {ρ : Ren} (L : Lays.n189 P ρ) {f : Nat} (hf : ρ.f 189 = f) (LO : ∃ fn, P.funcs[f]? = some fn ∧ (fn.name == "runtime.NumGoroutine") = false ∧ fn.body.isNone = false) :
   qI P f (mA [.io iS] [] (fun x => DI x.1)) := by
 refine ⟨?_, LO⟩; intro c w mu lc eg args A y hH hA hs ho; unfold mA at hs
 cases hx : fF [.io iS] eg with
 | none => rw [hx] at hs; cases hs
 | some x =>
   rw [hx] at hs; simp only [Option.some.injEq] at hs; subst hs; obtain ⟨a0, rfl, hq⟩ := DH hx; clear hx
   cases a0 with
   | val _ _ => cases hq
   | box _ => cases hq
   | bW _ => cases hq
   | io A0 =>
     obtain ⟨v, l, ha, hv, hl⟩ := hA; have hl : l = [] := hl; subst hl; have ha : args = #[v] := Array.toList_inj.1 ha; subst ha; obtain ⟨r0, o0, qj, Se⟩ := A0; unfold Fj at hq; obtain ⟨xY, I9⟩ := aH hq; clear hq; have xY := Md.oG.1 xY; subst xY
     cases hc : ck iS qj with
     | none => simp [hc] at I9
     | some xs =>
       simp only [hc] at I9; injection I9 with hq; obtain ⟨e, he⟩ := bA hc
       cases e
       have he : xs = qj := he; rw [he] at hq; subst hq; have Cs : DI qj = some y := ho; unfold DI at Cs; obtain ⟨hb, Cs⟩ := aH Cs; have Gb := Nat.le_of_ble_eq_true hb; unfold lim at Gb; injection Cs with Cs; subst Cs; obtain ⟨h1, h2, h3, h4⟩ : OwnAt c w (.cA 0 0) (lc 0 0) { r := iS, own := o0, xs := qj } v := hv; have h3 : o0 = true := h3; subst h3; have KZ : ((bC qj).mergeSort fun x y => decide (x ≤ y)).length = qj.length := by rw [List.length_mergeSort]; exact jm qj
       have fin : ∀ (w' : World), By w mu c w' → OwnAt c w' (.cA 0 0) (lc 0 0) { r := iS, own := true, xs := aV ((bC qj).mergeSort fun x y => decide (x ≤ y)) } v →
           ∃ v', Ending.returned (.tuple #[]) = .returned v' ∧ ∃ c', By w mu c' w' ∧ rJ c' w' [] v' ∧ iR c' w' lc 0 [.io { r := iS, own := true, xs := qj }] [v] [.io { r := iS, own := true, xs := aV ((bC qj).mergeSort fun x y => decide (x ≤ y)) }] :=
         fun w' AQ gP => ⟨_, rfl, c, AQ, .inr ⟨by simp, #[], rfl, rfl⟩, _, _, rfl, rfl, (cR _).trans KZ, gP, rfl⟩
       have H2 : By w mu c w := ⟨fun b l hb => ⟨hH.lt b l hb, (hH.lb b l hb).imp id fun hh => .inr ((hH.m b).2 ⟨l, hb, hh⟩)⟩, fun b _ hb => .inr ((hH.ok b).2 hb), ⟨rfl, rfl, rfl, Nat.le_refl _⟩, fun _ _ _ => rfl⟩
       by_cases gW : qj = []
       · -- nothing to sort
         subst gW; have hz : ∃ a cp, v = .slice a 0 cp := by
           unfold jJ at h2
           split at h2
           · exact ⟨none, 0, h2.1⟩
           · obtain ⟨a, cp, hv, _⟩ := h2; exact ⟨some a, cp, hv⟩
         obtain ⟨a, cp, rfl⟩ := hz; have mw := Any.slices_Sort_int_none L a cp w; rw [hf] at mw; refine mw.mono fun e w' ⟨he, hw⟩ => ?_
         subst he; subst hw; refine fin w' H2 ?_; have key : ∀ ys : List (aq iS), ys = [] → OwnAt c w' (.cA 0 0) (lc 0 0) { r := iS, own := true, xs := ys } (.slice a 0 cp) := by
           intro ys e; subst e; exact ⟨h1, h2, rfl, h4⟩
         exact key _ (List.length_eq_zero_iff.1 ((cR _).trans KZ))
       · generalize jh : lc 0 0 = loc at *
         cases loc with
         | nil => exact absurd h4 gW
         | «at» b off cap =>
           obtain ⟨g1, g2, ⟨cur, ty, g3, g4⟩, g5⟩ := h4; obtain ⟨a, cp, rfl, k1, k2, k3⟩ := h2; have NS : 0 < qj.length := List.length_pos_iff.2 gW; have k1 : qj.length ≤ cp := k1; have ha := k3 (by omega); have ha : a = ⟨b, off, none⟩ := ha.trans (by rw [Nat.zero_mul]; rfl); subst ha; have dm : b < w.heap.size := (Array.getElem?_eq_some_iff.1 g3).1; have mm : off + qj.length ≤ cur.size := by
             have g2 : qj.length ≤ cap := g2; have g4 : off + cap * 1 ≤ cur.size := g4; omega
           have mw := Any.slices_Sort_int L b off cp (bC qj) w (DG g3 ((cf.sh rfl).1 g5)) dm (by rw [jm qj]; omega); rw [hf] at mw; have hlen : (bC qj).length = qj.length := jm qj; rw [hlen] at mw; refine mw.mono fun e w' ⟨he, n, os, hw⟩ => ?_
           subst he; subst hw; have PR : off + ((bC qj).mergeSort fun x y => decide (x ≤ y)).length ≤ cur.size := by rw [KZ]; exact mm
           have hm : mu.m b := (hH.m b).2 ⟨_, g1, rfl⟩; refine fin _ (H0 hH hm _) ?_; have H3 : (aV ((bC qj).mergeSort fun x y => decide (x ≤ y))).length = qj.length := (cR _).trans KZ; refine ⟨h1, ⟨_, cp, congrArg (fun n => Value.slice (some ⟨b, off, none⟩) n cp) H3.symm, Nat.le_trans (Nat.le_of_eq H3) k1, k2, k3⟩, rfl, g1, ?_, ⟨_, ty, ym g3 _, ?_⟩, (cf.sh rfl).2 (FA g3 _ PR (List.prefix_refl _))⟩
           · exact Nat.le_trans (Nat.le_of_eq H3) g2
           · show off + cap * 1 ≤ _; simp only [_root_.Go.Sort.putCells, Array.size_mapIdx]; exact g4
def nN (xs : List (Int × Unit)) : Option ((List (Int × Unit)) × Unit) := bif Nat.ble xs.length lim then some (aV (Lib.compact (bC xs)), ()) else none
theorem H4 (zs : List Int) : (Lib.compact zs).length ≤ zs.length := by
 unfold Lib.compact Lib.compactUpTo; rw [List.length_map]; exact Nat.le_trans (List.length_filter_le _ _) (by simp)
def Cz.one (c : Cz) (b : Nat) (l : Lb) : Cz := { c with own := fun b' => if b' = b then some l else c.own b' }
theorem By.one {c : Cz} {w w' : World} {mu : Mu} {b : Nat} {l : Lb} (h : By w mu c w') (hm : mu.m b) (hb : b < w'.heap.size) : By w mu (c.one b l) w' := by
 refine ⟨fun b' l' h' => ?_, fun b' dm h' => ?_, h.kept, h.old⟩
 · have h' : (if b' = b then some l else c.own b') = some l' := h'
   by_cases e : b' = b
   · subst e; exact ⟨hb, .inr (.inr hm)⟩
   · rw [if_neg e] at h'; exact h.owned b' l' h'
 · have h' : (if b' = b then some l else c.own b') = none := h'
   by_cases e : b' = b
   · rw [if_pos e] at h'; cases h'
   · rw [if_neg e] at h'; exact h.free b' dm h'
theorem EI {P : Program} {ρ : Ren} (L : Lays2.n20 P ρ) {f : Nat} (hf : ρ.f 20 = f) (LO : ∃ fn, P.funcs[f]? = some fn ∧ (fn.name == "runtime.NumGoroutine") = false ∧ fn.body.isNone = false) :
   qI P f (mA [.val false [.own iS]] [{ src := .tmp 0, agg := false, ps := [.own iS] }] (fun x => nN x.1)) := by
 refine ⟨?_, LO⟩; intro c w mu lc eg args A y hH hA hs ho; unfold mA at hs
 cases hx : fF [.val false [.own iS]] eg with
 | none => rw [hx] at hs; cases hs
 | some x =>
   rw [hx] at hs; simp only [Option.some.injEq] at hs; subst hs; have H2 : By w mu c w := ⟨fun b l hb => ⟨hH.lt b l hb, (hH.lb b l hb).imp id fun hh => .inr ((hH.m b).2 ⟨l, hb, hh⟩)⟩, fun b _ hb => .inr ((hH.ok b).2 hb), ⟨rfl, rfl, rfl, Nat.le_refl _⟩, fun _ _ _ => rfl⟩; have empty : ∀ a cp, Calls P f #[.slice a 0 cp] w fun e w' => e = .returned (.slice a 0 cp) ∧ w' = w := fun a cp => by
     have mw := calls_of_every_depth fun D => AnyS.slices_Compact_int_empty_in L D a cp w
     rw [hf] at mw; exact mw
   have ans : ∀ (os : List OV) (v : Value) (c' : Cz) (w' : World) (loc : Loc) (u : Value) (ys : List (aq iS)), By w mu c' w' → OwnAt c' w' (.jc 0) loc { r := iS, own := true, xs := ys } u →
       ∃ v', Ending.returned u = .returned v' ∧ ∃ c', By w mu c' w' ∧ rJ c' w' [.one (.own { r := iS, own := true, xs := ys })] v' ∧ iR c' w' lc 0 [.val false os] [v] [] :=
     fun os v c' w' loc u ys hb gP => ⟨u, rfl, c', hb, .inl ⟨_, rfl, u, [], rfl, ⟨u, [], rfl, ⟨loc, gP⟩, rfl⟩, rfl⟩, rfl⟩
   obtain ⟨a0, rfl, hq⟩ := DH hx; clear hx
   cases a0 with
   | io _ => cases hq
   | box _ => cases hq
   | bW _ => cases hq
   | val ag os =>
   cases ag with
   | true => cases hq
   | false =>
   obtain ⟨o, z, rfl, hz, EE⟩ := JF hq; clear hq
   cases o with
   | int _ _ => cases hz
   | bool _ => cases hz
   | str _ => cases hz
   | shr _ _ => cases hz
   | mH _ _ => cases hz
   | fn _ _ _ => cases hz
   | eI =>
     obtain ⟨v, l, ha, hv, hl⟩ := hA; have hl : l = [] := hl; subst hl; have ha : args = #[v] := Array.toList_inj.1 ha; subst ha; obtain ⟨l', oz, _⟩ := hv; injection oz with oz _; subst oz; injection hz with hz; subst hz; subst EE; have Cs : nN [] = some y := ho; have hy : y = ([], ()) := by
       have : nN [] = some ([], ()) := rfl; rw [this] at Cs; injection Cs with Cs; exact Cs.symm
     subst hy; refine (empty none 0).mono fun e w' ⟨he, hw⟩ => ?_
     subst he; subst hw; exact ans _ _ c _ .nil _ [] H2 ⟨rfl, ⟨rfl, rfl⟩, rfl, rfl⟩
   | own A0 =>
     obtain ⟨v, l, ha, hv, hl⟩ := hA; have hl : l = [] := hl; subst hl; have ha : args = #[v] := Array.toList_inj.1 ha; subst ha; obtain ⟨v1, l', oz, ⟨loc, Jk⟩, _⟩ := hv; injection oz with oz _; subst oz; obtain ⟨r0, o0, qj, Se⟩ := A0; have hz : (bif Se.is .sh then ck iS qj else none) = some z := hz; obtain ⟨xY, hz⟩ := aH hz; have xY := Md.oG.1 xY; subst xY
     cases hc : ck iS qj with
     | none => rw [hc] at hz; cases hz
     | some xs =>
       have hzx : xs = z := Option.some.inj (hc.symm.trans hz); obtain ⟨e, he⟩ := bA hc
       cases e
       have he : xs = qj := he; rw [← hzx, he] at EE; subst EE; have Cs : nN qj = some y := ho; unfold nN at Cs; obtain ⟨hb, Cs⟩ := aH Cs; have Gb := Nat.le_of_ble_eq_true hb; unfold lim at Gb; injection Cs with Cs; subst Cs; obtain ⟨h1, h2, h3, h4⟩ := Jk
       by_cases gW : qj = []
       · subst gW
         cases loc with
         | nil =>
           obtain ⟨h2, _⟩ := h2; subst h2; refine (empty none 0).mono fun e w' ⟨he, hw⟩ => ?_
           subst he; subst hw; exact ans _ _ c _ .nil _ [] H2 ⟨rfl, ⟨rfl, rfl⟩, rfl, rfl⟩
         | «at» b off cap =>
           obtain ⟨g1, g2, ⟨cur, ty, g3, g4⟩, g5⟩ := h4; obtain ⟨a, cp, XQ, k1, k2, k3⟩ := h2; have XQ : v = .slice (some a) 0 cp := XQ; subst XQ; have dm : b < w.heap.size := (Array.getElem?_eq_some_iff.1 g3).1; refine (empty (some a) cp).mono fun e w' ⟨he, hw⟩ => ?_
           subst he; subst hw; exact ans _ _ (c.one b (.jc 0)) _ (.at b off cap) _ [] (H2.one ((hH.m b).2 ⟨_, g1, rfl⟩) dm) ⟨rfl, ⟨a, cp, rfl, k1, k2, k3⟩, rfl, if_pos rfl, Nat.zero_le _, ⟨cur, ty, g3, g4⟩, (cf.sh rfl).2 fun i x hi => by simp at hi⟩
       · cases loc with
         | nil => exact absurd h4 gW
         | «at» b off cap =>
           obtain ⟨g1, g2, ⟨cur, ty, g3, g4⟩, g5⟩ := h4; obtain ⟨a, cp, XQ, k1, k2, k3⟩ := h2; subst XQ; have NS : 0 < qj.length := List.length_pos_iff.2 gW; have k1 : qj.length ≤ cp := k1; have ha := k3 (by omega); have ha : a = ⟨b, off, none⟩ := ha.trans (by rw [Nat.zero_mul]; rfl); subst ha; have dm : b < w.heap.size := (Array.getElem?_eq_some_iff.1 g3).1; have mm : off + qj.length ≤ cur.size := by
             have g2 : qj.length ≤ cap := g2; have g4 : off + cap * 1 ≤ cur.size := g4; omega
           have hlen : (bC qj).length = qj.length := jm qj; have mw := calls_of_every_depth fun D => AnyS.slices_Compact_int_in L D b off cp (bC qj) w (DG g3 ((cf.sh rfl).1 g5)) (Nat.le_trans (Nat.le_of_eq (jm qj)) (Nat.le_trans Gb (by decide))) (Nat.le_trans (Nat.le_of_eq (jm qj)) k1)
           rw [hf, hlen] at mw; have sy := H4 (bC qj); rw [hlen] at sy; refine mw.mono fun e w' ⟨he, q, hw⟩ => ?_
           subst he; rw [← grow_empty (putRow _ _ _ _ _)] at hw; subst hw; have hm : mu.m b := (hH.m b).2 ⟨_, g1, rfl⟩; have PR : off + (Lib.compact (bC qj) ++ List.replicate (qj.length - (Lib.compact (bC qj)).length) 0).length ≤ cur.size := by
             rw [List.length_append, List.length_replicate]; omega
           have AQ : By w mu c (grow (putRow (Value.int .i64) (Sort.ahead w q) b off (Lib.compact (bC qj) ++ List.replicate (qj.length - (Lib.compact (bC qj)).length) 0).toArray) #[]) := H0 hH hm _; refine ans _ _ (c.one b (.jc 0)) _ (.at b off cap) _ _ (AQ.one hm (Nat.lt_of_lt_of_le dm (A3 _))) ⟨rfl, ⟨_, cp, congrArg (fun n => Value.slice (some ⟨b, off, none⟩) n cp) (cR _).symm, Nat.le_trans (Nat.le_of_eq (cR _)) (Nat.le_trans sy k1), k2, k3⟩, rfl, if_pos rfl, ?_, ⟨_, ty, ym g3 _, ?_⟩, FA g3 _ PR (List.prefix_append _ _)⟩
           · exact Nat.le_trans (Nat.le_of_eq (cR _)) (Nat.le_trans sy g2)
           · show off + cap * 1 ≤ _; simp only [_root_.Go.Sort.putCells, Array.size_mapIdx]; exact g4
end Go.TM
