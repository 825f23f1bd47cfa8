/- slices.Sort and slices.Compact at whole numbers, of the kit's library of contracts, as functions of the tree machine. -/
import Derived.Test.YtiljcjnnhkidbaaLibWide
import Derived.Shelf.Sort.Plain
import Derived.Shelf.Slices.In.SortNone
import Derived.Shelf.Slices.In.CompactI
namespace Go.TM
open Go Go.RowKit Go.Proofs Go.Shelf Go.Sort
abbrev fY : RT := .cons (.int .i64) .nil
def aZ (xs : List (Int × Unit)) : List Int := xs.map (·.1)
def aN (zs : List Int) : List (Int × Unit) := zs.map fun z => (z, ())
theorem bJ (zs : List Int) : (aN zs).length = zs.length := List.length_map ..
theorem gu (xs : List (Int × Unit)) : (aZ xs).length = xs.length := List.length_map ..
theorem GC (xs : List (Int × Unit)) (j : Nat) (h : j < (aZ xs).length) : (aZ xs)[j] = (xs[j]'(by rw [gu] at h; exact h)).1 := List.getElem_map ..
theorem GD (zs : List Int) (j : Nat) (h : j < (aN zs).length) : (aN zs)[j] = (zs[j]'(by rw [bJ] at h; exact h), ()) := List.getElem_map ..
theorem AW {w : World} {ok : Nat → Prop} {b off : Nat} {cur : Array Value} {ty : TypeId} {xs : List (ak fY)} (hb : w.heap[b]? = some (.cells cur ty (0, 0))) (hx : ∀ i x, xs[i]? = some x → bU w ok fY b (off + i * fY.width) x) :
   Holds (Value.int .i64) w b off (aZ xs).toArray := by
 intro j hj; have Nj : j < (aZ xs).length := hj; have hlen : (aZ xs).length = List.length (α := ak fY) xs := gu xs; have Lg : j < List.length (α := ak fY) xs := by omega
 have h1 : bU w ok (.cons (.int .i64) .nil) b (off + j * fY.width) (xs[j]'Lg) := hx j _ (List.getElem?_eq_getElem Lg); unfold bU at h1; obtain ⟨⟨v, h2, h3⟩, _⟩ := h1; have h3 := oK.1 h3; subst h3; have e : off + j * fY.width = off + j := by show off + j * 1 = off + j; omega
 rw [e] at h2; refine ⟨?_, ?_⟩
 · rw [h2, getElem!_pos (aZ xs).toArray j hj]; exact congrArg (fun z => some (Value.int .i64 z)) (GC xs j Nj).symm
 · unfold World.frozen?; simp only [hb]; simp
theorem vK {w : World} {n : Nat} {os : Array Obj} {b off : Nat} {cur : Array Value} {ty : TypeId} (hb : w.heap[b]? = some (.cells cur ty (0, 0))) (zs : List Int) :
   (grow (putRow (Value.int .i64) (Sort.ahead w n) b off zs.toArray) os).heap[b]? = some (.cells (_root_.Go.Sort.putCells (Value.int .i64) off zs.toArray cur) ty (0, 0)) := by
 have bP : b < w.heap.size := (Array.getElem?_eq_some_iff.1 hb).1; show (w.heap.modify b (onCells _) ++ os)[b]? = _; rw [Array.getElem?_append_left (by simpa using bP), Array.getElem?_modify, if_pos rfl, hb]; rfl
theorem GF {w : World} {n : Nat} {os : Array Obj} {b off : Nat} (zs : List Int) {k : Nat} (hk : k < w.heap.size) (fp : k ≠ b) :
   (grow (putRow (Value.int .i64) (Sort.ahead w n) b off zs.toArray) os).heap[k]? = w.heap[k]? := by
 show (w.heap.modify b (onCells _) ++ os)[k]? = _; rw [Array.getElem?_append_left (by simpa using hk), Array.getElem?_modify, if_neg (Ne.symm fp)]
theorem yl {w : World} {n : Nat} {os : Array Obj} {b off : Nat} (zs : List Int) : w.heap.size ≤ (grow (putRow (Value.int .i64) (Sort.ahead w n) b off zs.toArray) os).heap.size := by
 show w.heap.size ≤ (w.heap.modify b (onCells _) ++ os).size; rw [Array.size_append, Array.size_modify]; omega
theorem E5 {c : Cz} {w : World} {mu : Mu} {n : Nat} {os : Array Obj} {b off : Nat} (hH : Handed c w mu) (hm : mu.m b) (zs : List Int) : yH w mu c (grow (putRow (Value.int .i64) (Sort.ahead w n) b off zs.toArray) os) :=
 ⟨fun b' l ka => ⟨Nat.lt_of_lt_of_le (hH.lt b' l ka) (yl zs), (hH.lb b' l ka).imp id fun hh => .inr ((hH.m b').2 ⟨l, ka, hh⟩)⟩, fun b' _ ka => .inr ((hH.ok b').2 ka), ⟨rfl, rfl, rfl, yl zs⟩, fun k hk hkm => GF zs hk (fun e => hkm (e ▸ hm))⟩
theorem CI {w : World} {ok : Nat → Prop} {n : Nat} {os : Array Obj} {b off : Nat} {cur : Array Value} {ty : TypeId} (hb : w.heap[b]? = some (.cells cur ty (0, 0))) (zs : List Int) (hs : off + zs.length ≤ cur.size) {ys : List Int} (hy : ys <+: zs) :
   ∀ i (x : ak fY), (show List (ak fY) from aN ys)[i]? = some x → bU (grow (putRow (Value.int .i64) (Sort.ahead w n) b off zs.toArray) os) ok fY b (off + i * fY.width) x := by
 intro i x hi; have Nf : i < (aN ys).length := (List.getElem?_eq_some_iff.1 hi).1; have hil : i < ys.length := by rw [bJ] at Nf; exact Nf
 have hiz : i < zs.length := Nat.lt_of_lt_of_le hil hy.length_le; have hx : (aN ys)[i] = x := (List.getElem?_eq_some_iff.1 hi).2; have Ga : x.1 = ys[i] := by
   rw [← hx]; exact congrArg Prod.fst (GD ys i Nf)
 have hyz : ys[i] = zs[i] := by
   obtain ⟨t, rfl⟩ := hy; exact (List.getElem_append_left hil).symm
 have e : off + i * fY.width = off + i := by show off + i * 1 = off + i; omega
 rw [e]; show bU _ ok (.cons (.int .i64) .nil) b (off + i) x; unfold bU; refine ⟨⟨.int .i64 ys[i], ?_, oK.2 (congrArg (Value.int .i64) Ga.symm)⟩, by unfold bU; trivial⟩; unfold World.cell?; simp only [vK hb zs]; have bP : off + i < cur.size := by omega
 simp only [_root_.Go.Sort.putCells, Array.getElem?_mapIdx, Array.getElem?_eq_getElem bP, Option.map_some]; rw [if_neg (by simp), Option.some.injEq, if_pos ⟨by omega, by simp; omega⟩, show off + i - off = i by omega, getElem!_pos _ i (by simpa using hiz)]; simp [hyz]
theorem AX {p : AP} {cM : List AV} {x : ak (ar ([p].map some))} (h : ek [p] cM = some x) : ∃ a, cM = [a] ∧ Cr p .nil a () = some x := by
 match cM, h with
 | [], h => cases h
 | [a], h => exact ⟨a, rfl, h⟩
 | a :: b :: l, h => cases h
theorem GG {p : OP} {t : RT} {os : List OV} {y : ak t} {x : ak (jP [p] t)} (h : cB [p] t os y = some x) : ∃ o z, os = [o] ∧ oW p o = some z ∧ x = (z, y) := by
 match os, h with
 | [], h => cases h
 | [o], h =>
   unfold cB cB at h
   cases hc : oW p o with
   | none => rw [hc] at h; cases h
   | some z =>
     rw [hc] at h; injection h with h; exact ⟨o, z, rfl, hc, h.symm⟩
 | a :: b :: l, h =>
   exfalso
   unfold cB cB at h
   cases hc : oW p a <;> rw [hc] at h <;> cases h
def AY (xs : List (Int × Unit)) : Option ((List (Int × Unit)) × Unit) := bif Nat.ble xs.length lim then some (aN ((aZ xs).mergeSort fun x y => decide (x ≤ y)), ()) else none
theorem GH {P : Program} {ρ : Ren} (L : Lays.n189 P ρ) {f : Nat} (hf : ρ.f 189 = f) (I6 : ∃ fn, P.funcs[f]? = some fn ∧ (fn.name == "runtime.NumGoroutine") = false ∧ fn.body.isNone = false) :
   nN P f (jR [.io fY] [] (fun x => AY x.1)) := by
 refine ⟨?_, I6⟩; intro c w mu lc cM args A y hH hA hs ho; unfold jR at hs
 cases hx : ek [.io fY] cM with
 | none => rw [hx] at hs; cases hs
 | some x =>
   rw [hx] at hs; simp only [Option.some.injEq] at hs; subst hs; obtain ⟨a0, rfl, hq⟩ := AX hx; clear hx
   cases a0 with
   | val _ _ => cases hq
   | box _ => cases hq
   | bo _ => cases hq
   | io A0 =>
     obtain ⟨v, l, ha, hv, hl⟩ := hA; have hl : l = [] := hl; subst hl; have ha : args = #[v] := Array.toList_inj.1 ha; subst ha; obtain ⟨r0, o0, mV, Qf⟩ := A0; unfold Cr at hq; obtain ⟨vu, Gb⟩ := aD hq; clear hq; have vu := Md.kS.1 vu; subst vu
     cases hc : bn fY mV with
     | none => simp [hc] at Gb
     | some xs =>
       simp only [hc] at Gb; injection Gb with hq; obtain ⟨e, he⟩ := aX hc
       cases e
       have he : xs = mV := he; rw [he] at hq; subst hq; have zE : AY mV = some y := ho; unfold AY at zE; obtain ⟨hb, zE⟩ := aD zE; have Db := Nat.le_of_ble_eq_true hb; unfold lim at Db; injection zE with zE; subst zE; obtain ⟨h1, h2, h3, h4⟩ : OwnAt c w (.bA 0 0) (lc 0 0) { r := fY, own := o0, xs := mV } v := hv; have h3 : o0 = true := h3; subst h3; have Im : ((aZ mV).mergeSort fun x y => decide (x ≤ y)).length = mV.length := by rw [List.length_mergeSort]; exact gu mV
       have fin : ∀ (w' : World), yH w mu c w' → OwnAt c w' (.bA 0 0) (lc 0 0) { r := fY, own := true, xs := aN ((aZ mV).mergeSort fun x y => decide (x ≤ y)) } v →
           ∃ v', Ending.returned (.tuple #[]) = .returned v' ∧ ∃ c', yH w mu c' w' ∧ oR c' w' [] v' ∧ fX c' w' lc 0 [.io { r := fY, own := true, xs := mV }] [v] [.io { r := fY, own := true, xs := aN ((aZ mV).mergeSort fun x y => decide (x ≤ y)) }] :=
         fun w' x7 fh => ⟨_, rfl, c, x7, .inr ⟨by simp, #[], rfl, rfl⟩, _, _, rfl, rfl, (bJ _).trans Im, fh, rfl⟩
       have E6 : yH w mu c w := ⟨fun b l hb => ⟨hH.lt b l hb, (hH.lb b l hb).imp id fun hh => .inr ((hH.m b).2 ⟨l, hb, hh⟩)⟩, fun b _ hb => .inr ((hH.ok b).2 hb), ⟨rfl, rfl, rfl, Nat.le_refl _⟩, fun _ _ _ => rfl⟩
       by_cases fp : mV = []
       · -- nothing to sort
         subst fp; have hz : ∃ a cp, v = .slice a 0 cp := by
           unfold gN at h2
           split at h2
           · exact ⟨none, 0, h2.1⟩
           · obtain ⟨a, cp, hv, _⟩ := h2; exact ⟨some a, cp, hv⟩
         obtain ⟨a, cp, rfl⟩ := hz; have jO := Any.slices_Sort_int_none L a cp w; rw [hf] at jO; refine jO.mono fun e w' ⟨he, hw⟩ => ?_
         subst he; subst hw; refine fin w' E6 ?_; have key : ∀ ys : List (ak fY), ys = [] → OwnAt c w' (.bA 0 0) (lc 0 0) { r := fY, own := true, xs := ys } (.slice a 0 cp) := by
           intro ys e; subst e; exact ⟨h1, h2, rfl, h4⟩
         exact key _ (List.length_eq_zero_iff.1 ((bJ _).trans Im))
       · generalize gn : lc 0 0 = loc at *
         cases loc with
         | nil => exact absurd h4 fp
         | «at» b off cap =>
           obtain ⟨g1, g2, ⟨cur, ty, g3, g4⟩, g5⟩ := h4; obtain ⟨a, cp, rfl, k1, k2, k3⟩ := h2; have KO : 0 < mV.length := List.length_pos_iff.2 fp; have k1 : mV.length ≤ cp := k1; have ha := k3 (by omega); have ha : a = ⟨b, off, none⟩ := ha.trans (by rw [Nat.zero_mul]; rfl); subst ha; have bP : b < w.heap.size := (Array.getElem?_eq_some_iff.1 g3).1; have jK : off + mV.length ≤ cur.size := by
             have g2 : mV.length ≤ cap := g2; have g4 : off + cap * 1 ≤ cur.size := g4; omega
           have jO := Any.slices_Sort_int L b off cp (aZ mV) w (AW g3 ((bj.sh rfl).1 g5)) bP (by rw [gu mV]; omega); rw [hf] at jO; have hlen : (aZ mV).length = mV.length := gu mV; rw [hlen] at jO; refine jO.mono fun e w' ⟨he, n, os, hw⟩ => ?_
           subst he; subst hw; have NG : off + ((aZ mV).mergeSort fun x y => decide (x ≤ y)).length ≤ cur.size := by rw [Im]; exact jK
           have hm : mu.m b := (hH.m b).2 ⟨_, g1, rfl⟩; refine fin _ (E5 hH hm _) ?_; have E7 : (aN ((aZ mV).mergeSort fun x y => decide (x ≤ y))).length = mV.length := (bJ _).trans Im; refine ⟨h1, ⟨_, cp, congrArg (fun n => Value.slice (some ⟨b, off, none⟩) n cp) E7.symm, Nat.le_trans (Nat.le_of_eq E7) k1, k2, k3⟩, rfl, g1, ?_, ⟨_, ty, vK g3 _, ?_⟩, (bj.sh rfl).2 (CI g3 _ NG (List.prefix_refl _))⟩
           · exact Nat.le_trans (Nat.le_of_eq E7) g2
           · show off + cap * 1 ≤ _; simp only [_root_.Go.Sort.putCells, Array.size_mapIdx]; exact g4
def la (xs : List (Int × Unit)) : Option ((List (Int × Unit)) × Unit) := bif Nat.ble xs.length lim then some (aN (Lib.compact (aZ xs)), ()) else none
theorem E8 (zs : List Int) : (Lib.compact zs).length ≤ zs.length := by
 unfold Lib.compact Lib.compactUpTo; rw [List.length_map]; exact Nat.le_trans (List.length_filter_le _ _) (by simp)
def Cz.one (c : Cz) (b : Nat) (l : Lb) : Cz := { c with own := fun b' => if b' = b then some l else c.own b' }
theorem yH.one {c : Cz} {w w' : World} {mu : Mu} {b : Nat} {l : Lb} (h : yH w mu c w') (hm : mu.m b) (hb : b < w'.heap.size) : yH w mu (c.one b l) w' := by
 refine ⟨fun b' l' h' => ?_, fun b' bP h' => ?_, h.kept, h.old⟩
 · have h' : (if b' = b then some l else c.own b') = some l' := h'
   by_cases e : b' = b
   · subst e; exact ⟨hb, .inr (.inr hm)⟩
   · rw [if_neg e] at h'; exact h.owned b' l' h'
 · have h' : (if b' = b then some l else c.own b') = none := h'
   by_cases e : b' = b
   · rw [if_pos e] at h'; cases h'
   · rw [if_neg e] at h'; exact h.free b' bP h'
theorem BO {P : Program} {ρ : Ren} (L : Lays2.n20 P ρ) {f : Nat} (hf : ρ.f 20 = f) (I6 : ∃ fn, P.funcs[f]? = some fn ∧ (fn.name == "runtime.NumGoroutine") = false ∧ fn.body.isNone = false) :
   nN P f (jR [.val false [.own fY]] [{ src := .tmp 0, agg := false, ps := [.own fY] }] (fun x => la x.1)) := by
 refine ⟨?_, I6⟩; intro c w mu lc cM args A y hH hA hs ho; unfold jR at hs
 cases hx : ek [.val false [.own fY]] cM with
 | none => rw [hx] at hs; cases hs
 | some x =>
   rw [hx] at hs; simp only [Option.some.injEq] at hs; subst hs; have E6 : yH w mu c w := ⟨fun b l hb => ⟨hH.lt b l hb, (hH.lb b l hb).imp id fun hh => .inr ((hH.m b).2 ⟨l, hb, hh⟩)⟩, fun b _ hb => .inr ((hH.ok b).2 hb), ⟨rfl, rfl, rfl, Nat.le_refl _⟩, fun _ _ _ => rfl⟩; have empty : ∀ a cp, Calls P f #[.slice a 0 cp] w fun e w' => e = .returned (.slice a 0 cp) ∧ w' = w := fun a cp => by
     have jO := calls_of_every_depth fun D => AnyS.slices_Compact_int_empty_in L D a cp w
     rw [hf] at jO; exact jO
   have Xu : ∀ (os : List OV) (v : Value) (c' : Cz) (w' : World) (loc : Loc) (u : Value) (ys : List (ak fY)), yH w mu c' w' → OwnAt c' w' (.gj 0) loc { r := fY, own := true, xs := ys } u →
       ∃ v', Ending.returned u = .returned v' ∧ ∃ c', yH w mu c' w' ∧ oR c' w' [.one (.own { r := fY, own := true, xs := ys })] v' ∧ fX c' w' lc 0 [.val false os] [v] [] :=
     fun os v c' w' loc u ys hb fh => ⟨u, rfl, c', hb, .inl ⟨_, rfl, u, [], rfl, ⟨u, [], rfl, ⟨loc, fh⟩, rfl⟩, rfl⟩, rfl⟩
   obtain ⟨a0, rfl, hq⟩ := AX hx; clear hx
   cases a0 with
   | io _ => cases hq
   | box _ => cases hq
   | bo _ => cases hq
   | val ag os =>
   cases ag with
   | true => cases hq
   | false =>
   obtain ⟨o, z, rfl, hz, BH⟩ := GG hq; clear hq
   cases o with
   | int _ _ => cases hz
   | bool _ => cases hz
   | str _ => cases hz
   | shr _ _ => cases hz
   | jY _ _ => cases hz
   | fn _ _ _ => cases hz
   | dg =>
     obtain ⟨v, l, ha, hv, hl⟩ := hA; have hl : l = [] := hl; subst hl; have ha : args = #[v] := Array.toList_inj.1 ha; subst ha; obtain ⟨l', lC, _⟩ := hv; injection lC with lC _; subst lC; injection hz with hz; subst hz; subst BH; have zE : la [] = some y := ho; have hy : y = ([], ()) := by
       have : la [] = some ([], ()) := rfl; rw [this] at zE; injection zE with zE; exact zE.symm
     subst hy; refine (empty none 0).mono fun e w' ⟨he, hw⟩ => ?_
     subst he; subst hw; exact Xu _ _ c _ .nil _ [] E6 ⟨rfl, ⟨rfl, rfl⟩, rfl, rfl⟩
   | own A0 =>
     obtain ⟨v, l, ha, hv, hl⟩ := hA; have hl : l = [] := hl; subst hl; have ha : args = #[v] := Array.toList_inj.1 ha; subst ha; obtain ⟨v1, l', lC, ⟨loc, Gn⟩, _⟩ := hv; injection lC with lC _; subst lC; obtain ⟨r0, o0, mV, Qf⟩ := A0; have hz : (bif Qf.is .sh then bn fY mV else none) = some z := hz; obtain ⟨vu, hz⟩ := aD hz; have vu := Md.kS.1 vu; subst vu
     cases hc : bn fY mV with
     | none => rw [hc] at hz; cases hz
     | some xs =>
       have hzx : xs = z := Option.some.inj (hc.symm.trans hz); obtain ⟨e, he⟩ := aX hc
       cases e
       have he : xs = mV := he; rw [← hzx, he] at BH; subst BH; have zE : la mV = some y := ho; unfold la at zE; obtain ⟨hb, zE⟩ := aD zE; have Db := Nat.le_of_ble_eq_true hb; unfold lim at Db; injection zE with zE; subst zE; obtain ⟨h1, h2, h3, h4⟩ := Gn
       by_cases fp : mV = []
       · subst fp
         cases loc with
         | nil =>
           obtain ⟨h2, _⟩ := h2; subst h2; refine (empty none 0).mono fun e w' ⟨he, hw⟩ => ?_
           subst he; subst hw; exact Xu _ _ c _ .nil _ [] E6 ⟨rfl, ⟨rfl, rfl⟩, rfl, rfl⟩
         | «at» b off cap =>
           obtain ⟨g1, g2, ⟨cur, ty, g3, g4⟩, g5⟩ := h4; obtain ⟨a, cp, Uu, k1, k2, k3⟩ := h2; have Uu : v = .slice (some a) 0 cp := Uu; subst Uu; have bP : b < w.heap.size := (Array.getElem?_eq_some_iff.1 g3).1; refine (empty (some a) cp).mono fun e w' ⟨he, hw⟩ => ?_
           subst he; subst hw; exact Xu _ _ (c.one b (.gj 0)) _ (.at b off cap) _ [] (E6.one ((hH.m b).2 ⟨_, g1, rfl⟩) bP) ⟨rfl, ⟨a, cp, rfl, k1, k2, k3⟩, rfl, if_pos rfl, Nat.zero_le _, ⟨cur, ty, g3, g4⟩, (bj.sh rfl).2 fun i x hi => by simp at hi⟩
       · cases loc with
         | nil => exact absurd h4 fp
         | «at» b off cap =>
           obtain ⟨g1, g2, ⟨cur, ty, g3, g4⟩, g5⟩ := h4; obtain ⟨a, cp, Uu, k1, k2, k3⟩ := h2; subst Uu; have KO : 0 < mV.length := List.length_pos_iff.2 fp; have k1 : mV.length ≤ cp := k1; have ha := k3 (by omega); have ha : a = ⟨b, off, none⟩ := ha.trans (by rw [Nat.zero_mul]; rfl); subst ha; have bP : b < w.heap.size := (Array.getElem?_eq_some_iff.1 g3).1; have jK : off + mV.length ≤ cur.size := by
             have g2 : mV.length ≤ cap := g2; have g4 : off + cap * 1 ≤ cur.size := g4; omega
           have hlen : (aZ mV).length = mV.length := gu mV; have jO := calls_of_every_depth fun D => AnyS.slices_Compact_int_in L D b off cp (aZ mV) w (AW g3 ((bj.sh rfl).1 g5)) (Nat.le_trans (Nat.le_of_eq (gu mV)) (Nat.le_trans Db (by decide))) (Nat.le_trans (Nat.le_of_eq (gu mV)) k1)
           rw [hf, hlen] at jO; have pI := E8 (aZ mV); rw [hlen] at pI; refine jO.mono fun e w' ⟨he, q, hw⟩ => ?_
           subst he; rw [← grow_empty (putRow _ _ _ _ _)] at hw; subst hw; have hm : mu.m b := (hH.m b).2 ⟨_, g1, rfl⟩; have NG : off + (Lib.compact (aZ mV) ++ List.replicate (mV.length - (Lib.compact (aZ mV)).length) 0).length ≤ cur.size := by
             rw [List.length_append, List.length_replicate]; omega
           have x7 : yH w mu c (grow (putRow (Value.int .i64) (Sort.ahead w q) b off (Lib.compact (aZ mV) ++ List.replicate (mV.length - (Lib.compact (aZ mV)).length) 0).toArray) #[]) := E5 hH hm _; refine Xu _ _ (c.one b (.gj 0)) _ (.at b off cap) _ _ (x7.one hm (Nat.lt_of_lt_of_le bP (yl _))) ⟨rfl, ⟨_, cp, congrArg (fun n => Value.slice (some ⟨b, off, none⟩) n cp) (bJ _).symm, Nat.le_trans (Nat.le_of_eq (bJ _)) (Nat.le_trans pI k1), k2, k3⟩, rfl, if_pos rfl, ?_, ⟨_, ty, vK g3 _, ?_⟩, CI g3 _ NG (List.prefix_append _ _)⟩
           · exact Nat.le_trans (Nat.le_of_eq (bJ _)) (Nat.le_trans pI g2)
           · show off + cap * 1 ≤ _; simp only [_root_.Go.Sort.putCells, Array.size_mapIdx]; exact g4
end Go.TM
