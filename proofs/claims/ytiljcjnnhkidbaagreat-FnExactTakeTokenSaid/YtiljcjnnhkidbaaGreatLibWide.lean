/- Library functions that hand back an array of their own; rows of several cells copied. -/
import Derived.Test.YtiljcjnnhkidbaaGreatTm4
import Derived.Shelf.Spec.SlicesInsertGrow
import Derived.Deep.Upon
namespace Go.TM
open Go Go.RowKit Go.Proofs Go.Lib
def AP.isV : AP → Bool
 | .val _ _ => true
 | _ => false
theorem ph {P : Program} (w : World) (dT sT ty elem sz : Nat) (b o SL ac9 : Nat) (a : Addr) (zo F9 : Nat) (cs : List Value)
   (hu : P.underlying dT = some (.slice elem)) (hs : (P.info? elem).map (·.size) = some sz) (hn : cs.length = Nat.min zo SL * sz)
   (Sx : ∀ j v, cs[j]? = some v → w.cell? (a.add j) = some v) (hc : ∀ j, j < cs.length → (w.cell? ⟨b, o + j, none⟩).isSome = true) (hf : ∀ j, j < cs.length → w.frozen? ⟨b, o + j, none⟩ = false) (h1 : ∀ v ∈ cs, v.oneCell' = true) :
   (Builtin.copy_ #[dT, sT] ty #[.slice (some ⟨b, o, none⟩) SL ac9, .slice (some a) zo F9]).run P w = .ok (goInt (Nat.min zo SL)) (w.setCells b o cs) := by
 have hl := run_loadCells_list (P := P) w a cs Sx; have s3 := run_storeCells_cells (P := P) b o cs 0 w (by simpa using hc) (by simpa using hf) h1
 cases hq : P.info? elem with
 | none => simp [hq] at hs
 | some i =>
   have hi : i.size = sz := by simpa [hq] using hs
   simp [Builtin.copy_, run_underlying hu, Builtin.lenOf, Builtin.firstCells, sizeOf, typeInfo, hq, hi, ← hn, hl, s3]
theorem Fz (X : World) (B a : Nat) (V : List Value) (d : Nat) (D : List Value) (hv : ∀ j, j < V.length → (X.cell? ⟨B, a + j, none⟩).isSome = true) (hd : ∀ j, j < D.length → (X.cell? ⟨B, d + j, none⟩).isSome = true) (akg : a + V.length ≤ d ∨ d + D.length ≤ a) :
   (∀ (j : Nat) (v : Value), V[j]? = some v → ((X.setCells B a V).setCells B d D).cell? ⟨B, a + j, none⟩ = some v) ∧ (∀ (j : Nat) (v : Value), D[j]? = some v → ((X.setCells B a V).setCells B d D).cell? ⟨B, d + j, none⟩ = some v) ∧
   (∀ k, (k < a ∨ a + V.length ≤ k) → (k < d ∨ d + D.length ≤ k) → ((X.setCells B a V).setCells B d D).cell? ⟨B, k, none⟩ = X.cell? ⟨B, k, none⟩) := by
 refine ⟨fun j v h => ?_, fun j v h => ?_, fun k h1 h2 => ?_⟩
 · obtain ⟨hj, e⟩ := List.getElem?_eq_some_iff.1 h; rw [World.cell?_setCells_out B D d _ ⟨B, a + j, none⟩ (fun _ _ => by show a + j < d ∨ d + D.length ≤ a + j; omega), World.cell?_setCells_in B V a X hv j hj, e]
 · obtain ⟨hj, e⟩ := List.getElem?_eq_some_iff.1 h; rw [World.cell?_setCells_in B D d _ (fun i hi => isSome_setCells B V a X hv _ (hd i hi)) j hj, e]
 · rw [World.cell?_setCells_out B D d _ ⟨B, k, none⟩ (fun _ _ => h2), World.cell?_setCells_out B V a _ ⟨B, k, none⟩ (fun _ _ => h1)]
theorem heap_setCell {w : World} {b o : Nat} {v : Value} {cur : Array Value} {ty : TypeId} (h : w.heap[b]? = some (.cells cur ty (0, 0))) :
   ∃ qM, (w.setCell ⟨b, o, none⟩ v).heap[b]? = some (.cells qM ty (0, 0)) ∧ qM.size = cur.size := by
 unfold World.setCell; simp only [Array.getElem?_modify, if_true, h, Option.map_some]; exact ⟨_, rfl, by simp⟩
theorem mB {b : Nat} {ty : TypeId} : (vs : List Value) → (o : Nat) → {w : World} → {cur : Array Value} → w.heap[b]? = some (.cells cur ty (0, 0)) →
   ∃ qM, (w.setCells b o vs).heap[b]? = some (.cells qM ty (0, 0)) ∧ qM.size = cur.size
 | [], _, _, cur, h => ⟨cur, h, rfl⟩
 | v :: r, o, w, cur, h => by
   obtain ⟨c1, h1, s1⟩ := heap_setCell (o := o) (v := v) h; obtain ⟨c2, h2, s2⟩ := mB r (o + 1) h1; exact ⟨c2, h2, s2.trans s1⟩
theorem mC {b : Nat} : (vs : List Value) → (o : Nat) → (w : World) → (w.setCells b o vs).os = w.os ∧ (w.setCells b o vs).tape = w.tape ∧ (w.setCells b o vs).output = w.output ∧ (w.setCells b o vs).heap.size = w.heap.size
 | [], _, _ => ⟨rfl, rfl, rfl, rfl⟩
 | v :: r, o, w => by
   obtain ⟨h1, h2, h3, h4⟩ := mC r (o + 1) (w.setCell ⟨b, o, none⟩ v); have hs : (w.setCell ⟨b, o, none⟩ v).heap.size = w.heap.size := by simp [World.setCell]
   exact ⟨h1, h2, h3, h4.trans hs⟩
theorem bB.cut {w : World} {ok : Nat → Prop} {r : RT} : (i : Nat) → (vs : List Value) → (xs : List (aq r)) → bB w ok r vs xs → bB w ok r (vs.take (i * r.width)) (xs.take i) ∧ bB w ok r (vs.drop (i * r.width)) (xs.drop i)
 | 0, vs, xs, h => by
   rw [Nat.zero_mul, List.take_zero, List.take_zero, List.drop_zero, List.drop_zero]; exact ⟨rfl, h⟩
 | i + 1, vs, [], h => by
   have h : vs = [] := h; subst h; simp only [List.take_nil, List.drop_nil]; exact ⟨rfl, rfl⟩
 | i + 1, vs, x :: xs, h => by
   obtain ⟨l1, l2, e, h1, h2⟩ := h; subst e; have hl : l1.length = r.width := by
     have := bB.length l1 [x] (bB.one h1); simpa using this
   obtain ⟨k1, k2⟩ := bB.cut i l2 xs h2; have e : (i + 1) * r.width = l1.length + i * r.width := by rw [hl, Nat.add_mul]; omega
   rw [e, List.take_length_add_append, List.drop_length_add_append]; exact ⟨⟨l1, _, rfl, h1, k1⟩, k2⟩
def Cz.lay (c : Cz) (b : Nat) (l : Lb) : Cz := { c with own := fun b' => if b' = b then some l else c.own b' }
theorem JB {P : Program} {f : FuncId} {ps : List AP} {q : OP} {t : aq (az (ps.map some)) → Option (aq (dj [{ src := .tmp 0, agg := false, ps := [q] }] (bU ps)))} (PE : bU ps = .nil) (rM : ps.all AP.isV = true) (LO : ∃ fn, P.funcs[f]? = some fn ∧ (fn.name == "runtime.NumGoroutine") = false ∧ fn.body.isNone = false)
   (h : ∀ (c : Cz) (w : World) (mu : Mu) (args : Array Value) (x : aq (az (ps.map some))) y, Handed c w mu → ps.length = args.size → (∀ k av, (cY (ps.map some) x)[k]? = some (some av) → ∃ v, args.toList[k]? = some v ∧ sJ c w k (fun _ => .nil) av v) → t x = some y →
     Calls P f args w fun e w' => ∃ v, e = .returned v ∧ ∃ c', By w mu c' w' ∧ bT c' w' .jc 0 [q.ov y.1] [v]) : qI P f (mA ps [{ src := .tmp 0, agg := false, ps := [q] }] t) := by
 refine ⟨?_, LO⟩; intro c w mu lc eg args A y hH hA hs ho; unfold mA at hs
 cases hx : fF ps eg with
 | none => rw [hx] at hs; cases hs
 | some x =>
   rw [hx] at hs; simp only [Option.some.injEq] at hs; subst hs; have Cs : t x = some y := ho; obtain ⟨l1, l2, hold⟩ := xh ps 0 eg args.toList hx hA; have NW : ∀ (k : Nat) (av : AV), (cY (ps.map some) x)[k]? = some (some av) → ∃ (ag : Bool) (os : List OV), av = AV.val ag os := by
     have key : ∀ (l : List AP) (z : aq (az (l.map some))), l.all AP.isV = true → ∀ (k : Nat) (av : AV), (cY (l.map some) z)[k]? = some (some av) → ∃ (ag : Bool) (os : List OV), av = AV.val ag os := by
       intro l
       induction l with
       | nil =>
         intro z _ k av hk; have hk : ([] : List (Option AV))[k]? = some (some av) := hk; simp at hk
       | cons p l ih =>
         intro z hl k av hk; rw [List.all_cons, Bool.and_eq_true] at hl
         cases k with
         | zero =>
           have hk : some (some (p.av (az (l.map some)) z).1) = some (some av) := hk; simp only [Option.some.injEq] at hk; subst hk
           cases p with
           | val ag qs => exact ⟨ag, _, rfl⟩
           | _ => cases hl.1
         | succ k => exact ih _ hl.2 k av hk
     exact key ps x rM
   refine (h c w mu args x y hH (by rw [l2]; simp) (fun k av hk => ?_) Cs).mono fun e w' ⟨v, he, c', hb, hv⟩ => ?_
   · obtain ⟨v, h1, h2⟩ := hold k av hk; rw [Nat.zero_add] at h2; refine ⟨v, h1, ?_⟩; obtain ⟨ag, os, rfl⟩ := NW k av hk
     cases ag <;> exact h2
   · refine ⟨v, he, c', hb, .inl ⟨.one (q.ov y.1), rfl, v, [], rfl, hv, rfl⟩, ?_⟩; have hlen : eg.length = args.toList.length := by rw [← l1, l2]
     have key : ∀ (l : List AP) (ws : List AV) (z : aq (az (l.map some))) (u : aq (bU l)) (vs : List Value) (i : Nat), l.all AP.isV = true → fF l ws = some z → ws.length = vs.length → iR c' w' lc i ws vs (mX l u) := by
       intro l
       induction l with
       | nil =>
         intro ws z u vs i _ hc _
         cases ws with
         | nil => rfl
         | cons _ _ => simp [fF] at hc
       | cons p l ih =>
         intro ws z u vs i hl hc hn; rw [List.all_cons, Bool.and_eq_true] at hl
         cases ws with
         | nil => simp [fF] at hc
         | cons a ws =>
           cases vs with
           | nil => simp at hn
           | cons v vs =>
             unfold fF at hc
             cases Xd : fF l ws with
             | none => simp [Xd] at hc
             | some z' =>
               simp only [Xd] at hc
               cases p with
               | val ag qs =>
                 cases a with
                 | val ag' os => exact ih ws z' u vs (i + 1) hl.2 Xd (by simpa using hn)
                 | _ => cases ag <;> cases hc
               | _ => cases hl.1
     exact key ps eg x _ args.toList 0 rM hx hlen
theorem yl {c : Cz} {w w' : World} {mu : Mu} {r : RT} {xs : List (aq r)} {vs : List Value} {B o cp : Nat} {cur : Array Value} {te : TypeId} {v : Value} (hH : Handed c w mu) (hB : w.heap.size ≤ B ∨ mu.m B)
   (sB : ∀ k, k < w.heap.size → k ≠ B → w'.heap[k]? = w.heap[k]?) (hk : w'.os = w.os ∧ w'.tape = w.tape ∧ w'.output = w.output ∧ w.heap.size ≤ w'.heap.size)
   (h1 : v.oneCell' = true) (h2 : jJ (.at B o cp) r.width 0 xs.length v) (h3 : xs.length ≤ cp) (h4 : w'.heap[B]? = some (.cells cur te (0, 0))) (h5 : o + cp * r.width ≤ cur.size)
   (hr : w'.rangeAt B o vs) (hv : bB w c.ok r vs xs) : ∃ c', By w mu c' w' ∧ bT c' w' .jc 0 [.own { r := r, own := true, xs := xs }] [v] := by
 have Nv : B < w'.heap.size := (Array.getElem?_eq_some_iff.1 h4).1; have gW : ∀ k, k < w.heap.size → c.ok k → k ≠ B := by
   rintro k hk gI rfl
   rcases hB with hB | hB
   · omega
   · obtain ⟨l, hl, _⟩ := (hH.m k).1 hB; unfold Cz.ok at gI; rw [hl] at gI; cases gI
 have s3 : jI w w' c.ok (c.lay B (.jc 0)).ok := ⟨hk.2.2.2, fun k Bt gI => sB k Bt (gW k Bt gI), fun k Bt gI => by
   unfold Cz.ok Cz.lay; simp only; rw [if_neg (gW k Bt gI)]; exact gI⟩
 refine ⟨c.lay B (.jc 0), ⟨fun b l hb => ?_, fun b dm hb => ?_, hk, fun k Bt hm => sB k Bt (fun e => ?_)⟩, v, [], rfl, ⟨.at B o cp, h1, h2, rfl, if_pos rfl, h3, ⟨cur, te, h4, h5⟩, (cf.sh rfl).2 (sG _ vs xs (bB.stays s3 _ _ hv) hr)⟩, rfl⟩
 · have hb : (if b = B then some (Lb.jc 0) else c.own b) = some l := hb
   by_cases e : b = B
   · subst e; exact ⟨Nv, hB.elim (fun h => .inr (.inl h)) (fun h => .inr (.inr h))⟩
   · rw [if_neg e] at hb; exact ⟨Nat.lt_of_lt_of_le (hH.lt b l hb) hk.2.2.2, (hH.lb b l hb).imp id fun hh => .inr ((hH.m b).2 ⟨l, hb, hh⟩)⟩
 · have hb : (if b = B then some (Lb.jc 0) else c.own b) = none := hb
   by_cases e : b = B
   · rw [if_pos e] at hb; cases hb
   · rw [if_neg e] at hb; exact .inr ((hH.ok b).2 hb)
 · subst e; rcases hB with hB | hB
   · omega
   · exact hm hB
end Go.TM
