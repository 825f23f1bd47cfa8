/- slices.Sort and slices.Compact at whole numbers, of the kit's library of contracts, as functions of the tree machine. -/
import Derived.Test.YtlgnmloddedbaaaGreatLibDel
import Derived.Shelf.Sort.Plain
import Derived.Shelf.Slices.In.SortNone
import Derived.Shelf.Slices.In.CompactI
set_option linter.unusedSimpArgs false
set_option linter.unusedVariables false
namespace Go.TM
open Go Go.RowKit Go.Proofs Go.Shelf Go.Sort
abbrev gQ : RT := .cons (.int .i64) .nil
def aY (xs : List (Int × Unit)) : List Int := xs.map (·.1)
def aO (zs : List Int) : List (Int × Unit) := zs.map fun z => (z, ())
theorem bY (zs : List Int) : (aO zs).length = zs.length := List.length_map ..
theorem ia (xs : List (Int × Unit)) : (aY xs).length = xs.length := List.length_map ..
theorem IL (xs : List (Int × Unit)) (j : Nat) (h : j < (aY xs).length) : (aY xs)[j] = (xs[j]'(by rw [ia] at h; exact h)).1 := List.getElem_map ..
theorem IM (zs : List Int) (j : Nat) (h : j < (aO zs).length) : (aO zs)[j] = (zs[j]'(by rw [bY] at h; exact h), ()) := List.getElem_map ..
theorem Cp {w : World} {ok : Nat → Prop} {b off : Nat} {cur : Array Value} {ty : TypeId} {xs : List (aq gQ)} (hb : w.heap[b]? = some (.cells cur ty (0, 0))) (hx : ∀ i x, xs[i]? = some x → cq w ok gQ b (off + i * gQ.width) x) :
   Holds (Value.int .i64) w b off (aY xs).toArray := by
 intro j hj; have Pt : j < (aY xs).length := hj; have hlen : (aY xs).length = List.length (α := aq gQ) xs := ia xs; have Ha : j < List.length (α := aq gQ) xs := by omega
 have h1 : cq w ok (.cons (.int .i64) .nil) b (off + j * gQ.width) (xs[j]'Ha) := hx j _ (List.getElem?_eq_getElem Ha); unfold cq at h1; obtain ⟨⟨v, h2, h3⟩, _⟩ := h1; have h3 := pD.1 h3; subst h3; have e : off + j * gQ.width = off + j := by show off + j * 1 = off + j; omega
 rw [e] at h2; refine ⟨?_, ?_⟩
 · rw [h2, getElem!_pos (aY xs).toArray j hj]; exact congrArg (fun z => some (Value.int .i64 z)) (IL xs j Pt).symm
 · unfold World.frozen?; simp only [hb]; simp
theorem wR {w : World} {n : Nat} {os : Array Obj} {b off : Nat} {cur : Array Value} {ty : TypeId} (hb : w.heap[b]? = some (.cells cur ty (0, 0))) (zs : List Int) :
   (grow (putRow (Value.int .i64) (Sort.ahead w n) b off zs.toArray) os).heap[b]? = some (.cells (_root_.Go.Sort.putCells (Value.int .i64) off zs.toArray cur) ty (0, 0)) := by
 have bX : b < w.heap.size := (Array.getElem?_eq_some_iff.1 hb).1; show (w.heap.modify b (onCells _) ++ os)[b]? = _; rw [Array.getElem?_append_left (by simpa using bX), Array.getElem?_modify, if_pos rfl, hb]; rfl
theorem IN {w : World} {n : Nat} {os : Array Obj} {b off : Nat} (zs : List Int) {k : Nat} (hk : k < w.heap.size) (fE : k ≠ b) :
   (grow (putRow (Value.int .i64) (Sort.ahead w n) b off zs.toArray) os).heap[k]? = w.heap[k]? := by
 show (w.heap.modify b (onCells _) ++ os)[k]? = _; rw [Array.getElem?_append_left (by simpa using hk), Array.getElem?_modify, if_neg (Ne.symm fE)]
theorem zF {w : World} {n : Nat} {os : Array Obj} {b off : Nat} (zs : List Int) : w.heap.size ≤ (grow (putRow (Value.int .i64) (Sort.ahead w n) b off zs.toArray) os).heap.size := by
 show w.heap.size ≤ (w.heap.modify b (onCells _) ++ os).size; rw [Array.size_append, Array.size_modify]; omega
theorem Hb {c : Cz} {w : World} {mu : Mu} {n : Nat} {os : Array Obj} {b off : Nat} (hH : Handed c w mu) (hm : mu.m b) (zs : List Int) : zo w mu c (grow (putRow (Value.int .i64) (Sort.ahead w n) b off zs.toArray) os) :=
 ⟨fun b' l lk => ⟨Nat.lt_of_lt_of_le (hH.lt b' l lk) (zF zs), (hH.lb b' l lk).imp id fun hh => .inr ((hH.m b').2 ⟨l, lk, hh⟩)⟩, fun b' _ lk => .inr ((hH.ok b').2 lk), ⟨rfl, rfl, rfl, zF zs⟩, fun k hk hkm => IN zs hk (fun e => hkm (e ▸ hm))⟩
theorem Ep {w : World} {ok : Nat → Prop} {n : Nat} {os : Array Obj} {b off : Nat} {cur : Array Value} {ty : TypeId} (hb : w.heap[b]? = some (.cells cur ty (0, 0))) (zs : List Int) (hs : off + zs.length ≤ cur.size) {ys : List Int} (hy : ys <+: zs) :
   ∀ i (x : aq gQ), (show List (aq gQ) from aO ys)[i]? = some x → cq (grow (putRow (Value.int .i64) (Sort.ahead w n) b off zs.toArray) os) ok gQ b (off + i * gQ.width) x := by
 intro i x hi; have Lf : i < (aO ys).length := (List.getElem?_eq_some_iff.1 hi).1; have hil : i < ys.length := by rw [bY] at Lf; exact Lf
 have hiz : i < zs.length := Nat.lt_of_lt_of_le hil hy.length_le; have hx : (aO ys)[i] = x := (List.getElem?_eq_some_iff.1 hi).2; have Ik : x.1 = ys[i] := by
   rw [← hx]; exact congrArg Prod.fst (IM ys i Lf)
 have hyz : ys[i] = zs[i] := by
   obtain ⟨t, rfl⟩ := hy; exact (List.getElem_append_left hil).symm
 have e : off + i * gQ.width = off + i := by show off + i * 1 = off + i; omega
 rw [e]; show cq _ ok (.cons (.int .i64) .nil) b (off + i) x; unfold cq; refine ⟨⟨.int .i64 ys[i], ?_, pD.2 (congrArg (Value.int .i64) Ik.symm)⟩, by unfold cq; trivial⟩; unfold World.cell?; simp only [wR hb zs]; have bX : off + i < cur.size := by omega
 simp only [_root_.Go.Sort.putCells, Array.getElem?_mapIdx, Array.getElem?_eq_getElem bX, Option.map_some]; rw [if_neg (by simp), Option.some.injEq, if_pos ⟨by omega, by simp; omega⟩, show off + i - off = i by omega, getElem!_pos _ i (by simpa using hiz)]; simp [hyz]
theorem Cq {p : AP} {dC : List AV} {x : aq (aw ([p].map some))} (h : eM [p] dC = some x) : ∃ a, dC = [a] ∧ Ea p .nil a () = some x := by
 match dC, h with
 | [], h => cases h
 | [a], h => exact ⟨a, rfl, h⟩
 | a :: b :: l, h => cases h
theorem IP {p : OP} {t : RT} {os : List OV} {y : aq t} {x : aq (kO [p] t)} (h : dj [p] t os y = some x) : ∃ o z, os = [o] ∧ pO p o = some z ∧ x = (z, y) := by
 match os, h with
 | [], h => cases h
 | [o], h =>
   unfold dj dj at h
   cases hc : pO p o with
   | none => rw [hc] at h; cases h
   | some z =>
     rw [hc] at h; injection h with h; exact ⟨o, z, rfl, hc, h.symm⟩
 | a :: b :: l, h =>
   exfalso
   unfold dj dj at h
   cases hc : pO p a <;> rw [hc] at h <;> cases h
def Cr (xs : List (Int × Unit)) : Option ((List (Int × Unit)) × Unit) := bif Nat.ble xs.length lim then some (aO ((aY xs).mergeSort fun x y => decide (x ≤ y)), ()) else none
theorem IQ {P : Program} {ρ : Ren} (L : Lays.n189 P ρ) {f : Nat} (hf : ρ.f 189 = f) (Ld : ∃ fn, P.funcs[f]? = some fn ∧ (fn.name == "runtime.NumGoroutine") = false ∧ fn.body.isNone = false) :
   mF P f (j3 [.io gQ] [] (fun x => Cr x.1)) := by
 refine ⟨?_, Ld⟩; intro c w mu lc dC args A y hH hA hs ho; unfold j3 at hs
 cases hx : eM [.io gQ] dC with
 | none => rw [hx] at hs; cases hs
 | some x =>
   rw [hx] at hs; simp only [Option.some.injEq] at hs; subst hs; obtain ⟨a0, rfl, hq⟩ := Cq hx; clear hx
   cases a0 with
   | val _ _ => cases hq
   | box _ => cases hq
   | bD _ => cases hq
   | io A0 =>
     obtain ⟨v, l, ha, hv, hl⟩ := hA; have hl : l = [] := hl; subst hl; have ha : args = #[v] := Array.toList_inj.1 ha; subst ha; obtain ⟨r0, o0, nS, Sb⟩ := A0; unfold Ea at hq; obtain ⟨v8, Il⟩ := aH hq; clear hq; have v8 := Md.lg.1 v8; subst v8
     cases hc : bA gQ nS with
     | none => simp [hc] at Il
     | some xs =>
       simp only [hc] at Il; injection Il with hq; obtain ⟨e, he⟩ := a6 hc
       cases e
       have he : xs = nS := he; rw [he] at hq; subst hq; have Ba : Cr nS = some y := ho; unfold Cr at Ba; obtain ⟨hb, Ba⟩ := aH Ba; have EZ := Nat.le_of_ble_eq_true hb; unfold lim at EZ; injection Ba with Ba; subst Ba; obtain ⟨h1, h2, h3, h4⟩ : OwnAt c w (.bK 0 0) (lc 0 0) { r := gQ, own := o0, xs := nS } v := hv; have h3 : o0 = true := h3; subst h3; have Kt : ((aY nS).mergeSort fun x y => decide (x ≤ y)).length = nS.length := by rw [List.length_mergeSort]; exact ia nS
       have fin : ∀ (w' : World), zo w mu c w' → OwnAt c w' (.bK 0 0) (lc 0 0) { r := gQ, own := true, xs := aO ((aY nS).mergeSort fun x y => decide (x ≤ y)) } v →
           ∃ v', Ending.returned (.tuple #[]) = .returned v' ∧ ∃ c', zo w mu c' w' ∧ pJ c' w' [] v' ∧ gO c' w' lc 0 [.io { r := gQ, own := true, xs := nS }] [v] [.io { r := gQ, own := true, xs := aO ((aY nS).mergeSort fun x y => decide (x ≤ y)) }] :=
         fun w' zw eY => ⟨_, rfl, c, zw, .inr ⟨by simp, #[], rfl, rfl⟩, _, _, rfl, rfl, (bY _).trans Kt, eY, rfl⟩
       have Hc : zo w mu c w := ⟨fun b l hb => ⟨hH.lt b l hb, (hH.lb b l hb).imp id fun hh => .inr ((hH.m b).2 ⟨l, hb, hh⟩)⟩, fun b _ hb => .inr ((hH.ok b).2 hb), ⟨rfl, rfl, rfl, Nat.le_refl _⟩, fun _ _ _ => rfl⟩
       by_cases fE : nS = []
       · -- nothing to sort
         subst fE; have hz : ∃ a cp, v = .slice a 0 cp := by
           unfold iB at h2
           split at h2
           · exact ⟨none, 0, h2.1⟩
           · obtain ⟨a, cp, hv, _⟩ := h2; exact ⟨some a, cp, hv⟩
         obtain ⟨a, cp, rfl⟩ := hz; have j1 := Any.slices_Sort_int_none L a cp w; rw [hf] at j1; refine j1.mono fun e w' ⟨he, hw⟩ => ?_
         subst he; subst hw; refine fin w' Hc ?_; have key : ∀ ys : List (aq gQ), ys = [] → OwnAt c w' (.bK 0 0) (lc 0 0) { r := gQ, own := true, xs := ys } (.slice a 0 cp) := by
           intro ys e; subst e; exact ⟨h1, h2, rfl, h4⟩
         exact key _ (List.length_eq_zero_iff.1 ((bY _).trans Kt))
       · generalize gz : lc 0 0 = loc at *
         cases loc with
         | nil => exact absurd h4 fE
         | «at» b off cap =>
           obtain ⟨g1, g2, ⟨cur, ty, g3, g4⟩, g5⟩ := h4; obtain ⟨a, cp, rfl, k1, k2, k3⟩ := h2; have NA : 0 < nS.length := List.length_pos_iff.2 fE; have k1 : nS.length ≤ cp := k1; have ha := k3 (by omega); have ha : a = ⟨b, off, none⟩ := ha.trans (by rw [Nat.zero_mul]; rfl); subst ha; have bX : b < w.heap.size := (Array.getElem?_eq_some_iff.1 g3).1; have ki : off + nS.length ≤ cur.size := by
             have g2 : nS.length ≤ cap := g2; have g4 : off + cap * 1 ≤ cur.size := g4; omega
           have j1 := Any.slices_Sort_int L b off cp (aY nS) w (Cp g3 ((bn.sh rfl).1 g5)) bX (by rw [ia nS]; omega); rw [hf] at j1; have hlen : (aY nS).length = nS.length := ia nS; rw [hlen] at j1; refine j1.mono fun e w' ⟨he, n, os, hw⟩ => ?_
           subst he; subst hw; have Nz : off + ((aY nS).mergeSort fun x y => decide (x ≤ y)).length ≤ cur.size := by rw [Kt]; exact ki
           have hm : mu.m b := (hH.m b).2 ⟨_, g1, rfl⟩; refine fin _ (Hb hH hm _) ?_; have Hd : (aO ((aY nS).mergeSort fun x y => decide (x ≤ y))).length = nS.length := (bY _).trans Kt; refine ⟨h1, ⟨_, cp, congrArg (fun n => Value.slice (some ⟨b, off, none⟩) n cp) Hd.symm, Nat.le_trans (Nat.le_of_eq Hd) k1, k2, k3⟩, rfl, g1, ?_, ⟨_, ty, wR g3 _, ?_⟩, (bn.sh rfl).2 (Ep g3 _ Nz (List.prefix_refl _))⟩
           · exact Nat.le_trans (Nat.le_of_eq Hd) g2
           · show off + cap * 1 ≤ _; simp only [_root_.Go.Sort.putCells, Array.size_mapIdx]; exact g4
def mc (xs : List (Int × Unit)) : Option ((List (Int × Unit)) × Unit) := bif Nat.ble xs.length lim then some (aO (Lib.compact (aY xs)), ()) else none
theorem He (zs : List Int) : (Lib.compact zs).length ≤ zs.length := by
 unfold Lib.compact Lib.compactUpTo; rw [List.length_map]; exact Nat.le_trans (List.length_filter_le _ _) (by simp)
def Cz.one (c : Cz) (b : Nat) (l : Lb) : Cz := { c with own := fun b' => if b' = b then some l else c.own b' }
theorem zo.one {c : Cz} {w w' : World} {mu : Mu} {b : Nat} {l : Lb} (h : zo w mu c w') (hm : mu.m b) (hb : b < w'.heap.size) : zo w mu (c.one b l) w' := by
 refine ⟨fun b' l' h' => ?_, fun b' bX h' => ?_, h.kept, h.old⟩
 · have h' : (if b' = b then some l else c.own b') = some l' := h'
   by_cases e : b' = b
   · subst e; exact ⟨hb, .inr (.inr hm)⟩
   · rw [if_neg e] at h'; exact h.owned b' l' h'
 · have h' : (if b' = b then some l else c.own b') = none := h'
   by_cases e : b' = b
   · rw [if_pos e] at h'; cases h'
   · rw [if_neg e] at h'; exact h.free b' bX h'
theorem Dn {P : Program} {ρ : Ren} (L : Lays2.n20 P ρ) {f : Nat} (hf : ρ.f 20 = f) (Ld : ∃ fn, P.funcs[f]? = some fn ∧ (fn.name == "runtime.NumGoroutine") = false ∧ fn.body.isNone = false) :
   mF P f (j3 [.val false [.own gQ]] [{ src := .tmp 0, agg := false, ps := [.own gQ] }] (fun x => mc x.1)) := by
 refine ⟨?_, Ld⟩; intro c w mu lc dC args A y hH hA hs ho; unfold j3 at hs
 cases hx : eM [.val false [.own gQ]] dC with
 | none => rw [hx] at hs; cases hs
 | some x =>
   rw [hx] at hs; simp only [Option.some.injEq] at hs; subst hs; have Hc : zo w mu c w := ⟨fun b l hb => ⟨hH.lt b l hb, (hH.lb b l hb).imp id fun hh => .inr ((hH.m b).2 ⟨l, hb, hh⟩)⟩, fun b _ hb => .inr ((hH.ok b).2 hb), ⟨rfl, rfl, rfl, Nat.le_refl _⟩, fun _ _ _ => rfl⟩; have empty : ∀ a cp, Calls P f #[.slice a 0 cp] w fun e w' => e = .returned (.slice a 0 cp) ∧ w' = w := fun a cp => by
     have j1 := calls_of_every_depth fun D => AnyS.slices_Compact_int_empty_in L D a cp w
     rw [hf] at j1; exact j1
   have ZL : ∀ (os : List OV) (v : Value) (c' : Cz) (w' : World) (loc : Loc) (u : Value) (ys : List (aq gQ)), zo w mu c' w' → OwnAt c' w' (.gM 0) loc { r := gQ, own := true, xs := ys } u →
       ∃ v', Ending.returned u = .returned v' ∧ ∃ c', zo w mu c' w' ∧ pJ c' w' [.one (.own { r := gQ, own := true, xs := ys })] v' ∧ gO c' w' lc 0 [.val false os] [v] [] :=
     fun os v c' w' loc u ys hb eY => ⟨u, rfl, c', hb, .inl ⟨_, rfl, u, [], rfl, ⟨u, [], rfl, ⟨loc, eY⟩, rfl⟩, rfl⟩, rfl⟩
   obtain ⟨a0, rfl, hq⟩ := Cq hx; clear hx
   cases a0 with
   | io _ => cases hq
   | box _ => cases hq
   | bD _ => cases hq
   | val ag os =>
   cases ag with
   | true => cases hq
   | false =>
   obtain ⟨o, z, rfl, hz, Di⟩ := IP hq; clear hq
   cases o with
   | int _ _ => cases hz
   | bool _ => cases hz
   | str _ => cases hz
   | shr _ _ => cases hz
   | kC _ _ => cases hz
   | fn _ _ _ => cases hz
   | dL =>
     obtain ⟨v, l, ha, hv, hl⟩ := hA; have hl : l = [] := hl; subst hl; have ha : args = #[v] := Array.toList_inj.1 ha; subst ha; obtain ⟨l', my, _⟩ := hv; injection my with my _; subst my; injection hz with hz; subst hz; subst Di; have Ba : mc [] = some y := ho; have hy : y = ([], ()) := by
       have : mc [] = some ([], ()) := rfl; rw [this] at Ba; injection Ba with Ba; exact Ba.symm
     subst hy; refine (empty none 0).mono fun e w' ⟨he, hw⟩ => ?_
     subst he; subst hw; exact ZL _ _ c _ .nil _ [] Hc ⟨rfl, ⟨rfl, rfl⟩, rfl, rfl⟩
   | own A0 =>
     obtain ⟨v, l, ha, hv, hl⟩ := hA; have hl : l = [] := hl; subst hl; have ha : args = #[v] := Array.toList_inj.1 ha; subst ha; obtain ⟨v1, l', my, ⟨loc, Iv⟩, _⟩ := hv; injection my with my _; subst my; obtain ⟨r0, o0, nS, Sb⟩ := A0; have hz : (bif Sb.is .sh then bA gQ nS else none) = some z := hz; obtain ⟨v8, hz⟩ := aH hz; have v8 := Md.lg.1 v8; subst v8
     cases hc : bA gQ nS with
     | none => rw [hc] at hz; cases hz
     | some xs =>
       have hzx : xs = z := Option.some.inj (hc.symm.trans hz); obtain ⟨e, he⟩ := a6 hc
       cases e
       have he : xs = nS := he; rw [← hzx, he] at Di; subst Di; have Ba : mc nS = some y := ho; unfold mc at Ba; obtain ⟨hb, Ba⟩ := aH Ba; have EZ := Nat.le_of_ble_eq_true hb; unfold lim at EZ; injection Ba with Ba; subst Ba; obtain ⟨h1, h2, h3, h4⟩ := Iv
       by_cases fE : nS = []
       · subst fE
         cases loc with
         | nil =>
           obtain ⟨h2, _⟩ := h2; subst h2; refine (empty none 0).mono fun e w' ⟨he, hw⟩ => ?_
           subst he; subst hw; exact ZL _ _ c _ .nil _ [] Hc ⟨rfl, ⟨rfl, rfl⟩, rfl, rfl⟩
         | «at» b off cap =>
           obtain ⟨g1, g2, ⟨cur, ty, g3, g4⟩, g5⟩ := h4; obtain ⟨a, cp, Xm, k1, k2, k3⟩ := h2; have Xm : v = .slice (some a) 0 cp := Xm; subst Xm; have bX : b < w.heap.size := (Array.getElem?_eq_some_iff.1 g3).1; refine (empty (some a) cp).mono fun e w' ⟨he, hw⟩ => ?_
           subst he; subst hw; exact ZL _ _ (c.one b (.gM 0)) _ (.at b off cap) _ [] (Hc.one ((hH.m b).2 ⟨_, g1, rfl⟩) bX) ⟨rfl, ⟨a, cp, rfl, k1, k2, k3⟩, rfl, if_pos rfl, Nat.zero_le _, ⟨cur, ty, g3, g4⟩, (bn.sh rfl).2 fun i x hi => by simp at hi⟩
       · cases loc with
         | nil => exact absurd h4 fE
         | «at» b off cap =>
           obtain ⟨g1, g2, ⟨cur, ty, g3, g4⟩, g5⟩ := h4; obtain ⟨a, cp, Xm, k1, k2, k3⟩ := h2; subst Xm; have NA : 0 < nS.length := List.length_pos_iff.2 fE; have k1 : nS.length ≤ cp := k1; have ha := k3 (by omega); have ha : a = ⟨b, off, none⟩ := ha.trans (by rw [Nat.zero_mul]; rfl); subst ha; have bX : b < w.heap.size := (Array.getElem?_eq_some_iff.1 g3).1; have ki : off + nS.length ≤ cur.size := by
             have g2 : nS.length ≤ cap := g2; have g4 : off + cap * 1 ≤ cur.size := g4; omega
           have hlen : (aY nS).length = nS.length := ia nS; have j1 := calls_of_every_depth fun D => AnyS.slices_Compact_int_in L D b off cp (aY nS) w (Cp g3 ((bn.sh rfl).1 g5)) (Nat.le_trans (Nat.le_of_eq (ia nS)) (Nat.le_trans EZ (by decide))) (Nat.le_trans (Nat.le_of_eq (ia nS)) k1)
           rw [hf, hlen] at j1; have oJ := He (aY nS); rw [hlen] at oJ; refine j1.mono fun e w' ⟨he, q, hw⟩ => ?_
           subst he; rw [← grow_empty (putRow _ _ _ _ _)] at hw; subst hw; have hm : mu.m b := (hH.m b).2 ⟨_, g1, rfl⟩; have Nz : off + (Lib.compact (aY nS) ++ List.replicate (nS.length - (Lib.compact (aY nS)).length) 0).length ≤ cur.size := by
             rw [List.length_append, List.length_replicate]; omega
           have zw : zo w mu c (grow (putRow (Value.int .i64) (Sort.ahead w q) b off (Lib.compact (aY nS) ++ List.replicate (nS.length - (Lib.compact (aY nS)).length) 0).toArray) #[]) := Hb hH hm _; refine ZL _ _ (c.one b (.gM 0)) _ (.at b off cap) _ _ (zw.one hm (Nat.lt_of_lt_of_le bX (zF _))) ⟨rfl, ⟨_, cp, congrArg (fun n => Value.slice (some ⟨b, off, none⟩) n cp) (bY _).symm, Nat.le_trans (Nat.le_of_eq (bY _)) (Nat.le_trans oJ k1), k2, k3⟩, rfl, if_pos rfl, ?_, ⟨_, ty, wR g3 _, ?_⟩, Ep g3 _ Nz (List.prefix_append _ _)⟩
           · exact Nat.le_trans (Nat.le_of_eq (bY _)) (Nat.le_trans oJ g2)
           · show off + cap * 1 ≤ _; simp only [_root_.Go.Sort.putCells, Array.size_mapIdx]; exact g4
end Go.TM
