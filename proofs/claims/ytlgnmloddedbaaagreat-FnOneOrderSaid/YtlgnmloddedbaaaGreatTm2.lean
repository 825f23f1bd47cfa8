/- A machine over trees: an evaluator of the code, and that what it finds is so; part 2. -/
import Derived.Test.YtlgnmloddedbaaaGreatTm1
import Derived.Laws.MakeOwn
import Derived.Great.BuildSlice
import Derived.Laws.Cover3
import Derived.Laws.BytesString
import Derived.Tactics
set_option linter.unusedSimpArgs false
set_option linter.unusedVariables false
namespace Go.TM
open Go Go.RowKit
theorem vE {b : Bool} {t e : N} {y : St} (h : (N.br b t e).val = some y) : (b = true ∧ t.val = some y) ∨ (b = false ∧ e.val = some y) := by
 cases b
 · exact .inr ⟨rfl, h⟩
 · exact .inl ⟨rfl, h⟩
theorem eX {b : Bool} {t : N} {y : St} (h : (N.br b t N.fail).val = some y) : b = true ∧ t.val = some y := by
 rcases vE h with h | ⟨_, h⟩
 · exact h
 · simp [N.val] at h
theorem Fa {st : St} {y : V} {b k : Nat} {B : gP} (h : Oq st y = some (b, k, B)) : ∃ g, y = .one (.ref b k g .full) ∧ aQ st b k g = some B ∧ B.own = true ∧ B.md = .dp := by
 unfold Oq at h
 split at h
 · rename_i a' j' g
   cases hA : aQ st a' j' g with
   | none => rw [hA] at h; cases h
   | some A =>
     rw [hA] at h; obtain ⟨h1, h2⟩ := aH h; rw [Bool.and_eq_true] at h1; simp only [Option.some.injEq, Prod.mk.injEq] at h2; obtain ⟨rfl, rfl, rfl⟩ := h2; exact ⟨g, rfl, hA, h1.1, Md.lS.1 h1.2⟩
 · cases h
theorem Bu {c : Cz} {w : World} {s j : Nat} {A : gP} (h : bI c w s j A) (ho : A.own = true) (hm : A.md = .dp) {v : Value} (hv : je (c.lc s j) A.r.width 0 A.xs.length v) :
   ∃ (g : Nat → List Nat) (vs : List Value) (xb : Option Nat), cL w (fun p k => c.own k = some (.sp s j) ∧ g k = p) A.r 0 vs A.xs ∧ (∀ b, xb = some b → c.own b = some (.sp s j) ∧ g b = []) ∧
     ((xb = none ∧ v = .slice none 0 0 ∧ A.xs.length = 0) ∨ ∃ b off lo cap n ad cur te, xb = some b ∧ v = .slice (some ad) A.xs.length n ∧ A.xs.length ≤ n ∧ lo + n ≤ cap ∧ (n ≠ 0 → ad = ⟨b, off + lo * A.r.width, none⟩) ∧
     w.heap[b]? = some (.cells cur te (0, 0)) ∧ off + cap * A.r.width ≤ cur.size ∧ w.rangeAt b (off + lo * A.r.width) vs) := by
 unfold bI at h
 cases hl : c.lc s j with
 | nil =>
   rw [hl] at h hv; refine ⟨fun _ => [], [], none, by rw [h]; rfl, (fun b e => by cases e), .inl ⟨rfl, hv.1, hv.2⟩⟩
 | «at» b off cap =>
   rw [hl] at h hv; obtain ⟨h0, h2, ⟨cur, te, h3, h4⟩, h5⟩ := h; rw [ho] at h0; unfold bm at h5; rw [hm] at h5; obtain ⟨g, g1, g2⟩ := h5; obtain ⟨ad, n, e, k1, k2, k3⟩ := hv; obtain ⟨vs, q1, q2⟩ := Bt b off 0 A.xs (fun i x hx => by rw [Nat.zero_add]; exact g2 i x hx); exact ⟨g, vs, some b, q2, (fun b' e => by cases e; exact ⟨h0, g1⟩), .inr ⟨b, off, 0, cap, n, ad, cur, te, rfl, e, k1, by omega, k3, h3, h4, by simpa using q1⟩⟩
def Uz (n : Nat) : List Nat → List Nat
 | [] => []
 | i :: l => (i + n) :: l
theorem HE {P : Program} {T : ki} (hT : fI P T) {w0 : World} {mu : Mu} {c : Cz} {st : St} {a : Act} {w : World} (h : Rel w0 mu c st a w)
   {d : Option Nat} {t ty : Nat} {r : RT} {bytes : Nat} (ht : T.elem t = some (r, bytes)) {x : V} {ux uy : Value} {b k gb : Nat} {B : gP} {ys : List (ar r)} (hx : dU c st w x ux) (hy : jw c st w (.ref b k gb .full) uy) (hB : aQ st b k gb = some B) (Zy : B.own = true) (UA : B.md = .dp)
   (Zz : bw r B.xs = some ys) {aP : St} (hv : (Cx st d r bytes x b k ys).val = some aP) (hd : ∀ k, d = some k → k < a.tmps.size) :
   ∃ v w', (Builtin.append_ #[t, t] ty #[ux, uy]).run P w = .ok v w' ∧ ∃ c', Rel w0 mu c' aP (a.put d v) w' := by
 obtain ⟨e, he⟩ := a7 Zz; subst e; simp only at he; subst he; obtain ⟨gy, vy, yb, Hn, hyb, hyc⟩ := Bu (h.sH hB) Zy UA (hy.2.2 B hB); have Q4 : (B.xs.length = 0 ∧ (uy = .slice none 0 0 ∨ ∃ a c, uy = .slice (some a) 0 c)) ∨ (B.xs.length ≠ 0 ∧ ∃ a c, uy = .slice (some a) B.xs.length c ∧ ∀ (j : Nat) v, vy[j]? = some v → w.cell? (a.add j) = some v) := by
   rcases hyc with ⟨_, e1, e2⟩ | ⟨b', off, lo, cap, n, ad, cur, te, _, e1, e2, e3, e4, e5, e6, e7⟩
   · exact .inl ⟨e2, .inl e1⟩
   · by_cases h0 : B.xs.length = 0
     · exact .inl ⟨h0, .inr ⟨ad, n, by rw [e1, h0]⟩⟩
     · refine .inr ⟨h0, ad, n, e1, fun j v hv => ?_⟩; rw [e4 (by omega), Addr.add_mid]; exact e7 j v hv
 unfold Cx at hv
 split at hv
 · -- behind nothing
   obtain ⟨hb, hv⟩ := eX hv; obtain ⟨kk, s0, rfl, iE, rfl⟩ := mf hv; obtain ⟨yS, kQ, _, _, _⟩ := kP [(b, k)] h; have hR := yS.iY kQ kk 0; refine E9 hT hR ht (xs := []) (ys := B.xs) (vx := []) (vy := vy) (PX := fun _ _ => False) (PY := fun p q => c.own q = some (.sp b k) ∧ gy q = p) (g := gy) (xb := none) iE (hd kk rfl) (Nat.le_of_ble_eq_true hb) rfl Hn (fun _ _ _ h => h.elim) (fun i q k' hk => ⟨by simp, Cz.mG (n := (b, k)) (by simp) hk.1, by simpa using hk.2⟩) Q4 (fun _ e => by cases e) (.inl ⟨rfl, hx, rfl⟩)
 · rename_i a' j g vw
   split at hv
   · rename_i A YK; obtain ⟨g2, e1, hA, hAo, hAm⟩ := Fa YK; injection e1 with e1; injection e1 with q1 q2 q3 q4; subst q1 q2 q3 q4
     cases oT : bw B.r A.xs with
     | none => rw [oT] at hv; simp [N.val] at hv
     | some xs =>
       rw [oT] at hv; simp only at hv; obtain ⟨fe, hv⟩ := dv hv; obtain ⟨hb, hv⟩ := eX hv; obtain ⟨kk, s0, rfl, iE, rfl⟩ := mf hv; obtain ⟨r0, JJ, oX, UB⟩ := A; obtain ⟨e, he⟩ := a7 oT; simp only at e; subst e; simp only at he; subst he; have OI : Lb.sp a' j ≠ Lb.sp b k := by
         intro e; injection e with e1 e2; subst e1 e2; simp at fe
       obtain ⟨gx, vx, xb, Jl, Mn, hxc⟩ := Bu (h.sH hA) hAo hAm (hx.2.2 _ hA); obtain ⟨yS, kQ, _, _, _⟩ := kP [(a', j), (b, k)] h; have hR := yS.iY kQ kk 0; have Cd : ∀ q, c.own q = some (.sp a' j) → (c.iY [(a', j), (b, k)] (.sp kk 0)).own q = some (.sp kk 0) := fun q hq => Cz.mG (n := (a', j)) (by simp) hq
       classical
       refine E9 hT hR ht (xs := xs) (ys := B.xs) (vx := vx) (vy := vy) (PX := fun p q => c.own q = some (.sp a' j) ∧ gx q = p) (PY := fun p q => c.own q = some (.sp b k) ∧ gy q = p)
         (g := fun q => if c.own q = some (.sp b k) then Uz xs.length (gy q) else gx q) (xb := xb) iE (hd kk rfl) (Nat.le_of_ble_eq_true hb) Jl Hn (fun i q k' hk => ⟨?_, Cd _ hk.1, ?_⟩) (fun i q k' hk => ⟨?_, Cz.mG (n := (b, k)) (by simp) hk.1, ?_⟩) Q4 (fun b' e => Cd _ (Mn b' e).1) ?_
       · intro e; have := (Mn k' e).2; rw [hk.2] at this; simp at this
       · rw [if_neg]
         · exact hk.2
         · rw [hk.1]; intro e; exact OI (Option.some.inj e)
       · intro e; have := (Mn k' e).1; rw [hk.1] at this; exact OI (Option.some.inj this).symm
       · rw [if_pos hk.1, hk.2]; rfl
       · exact hxc
   · simp [N.val] at hv
 · simp [N.val] at hv
theorem CQ {P : Program} {T : ki} (hT : fI P T) {w0 : World} {mu : Mu} {c : Cz} {st : St} {a : Act} {w : World} (h : Rel w0 mu c st a w)
   {d : Option Nat} {t ty : Nat} {x y : V} {ux uy : Value} (hx : dU c st w x ux) (hy : dU c st w y uy) {aP : St} (hv : (Cj T st d t x y).val = some aP) (hd : ∀ k, d = some k → k < a.tmps.size) :
   ∃ v w', (Builtin.append_ #[t, t] ty #[ux, uy]).run P w = .ok v w' ∧ ∃ c', Rel w0 mu c' aP (a.put d v) w' := by
 unfold Cj at hv
 cases ht : T.elem t with
 | none => simp [ht, N.val] at hv
 | some p =>
   obtain ⟨r, bytes⟩ := p; simp only [ht] at hv
   cases YK : Oq st y with
   | some q =>
     obtain ⟨b, k, B⟩ := q; rw [YK] at hv; simp only at hv; obtain ⟨gb, rfl, hB, Zy, UA⟩ := Fa YK
     cases Zz : bw r B.xs with
     | none => rw [Zz] at hv; simp [N.val] at hv
     | some ys =>
       rw [Zz] at hv; exact HE hT h ht hx hy hB Zy UA Zz hv hd
   | none =>
   rw [YK] at hv; simp only at hv; have tail : ∀ (xs : List (ar r)) (used : List (Nat × Nat)), (match y with
         | .one c => ly st r c fun ys => N.br (Nat.ble ((xs.length + ys.length) * bytes) lim)
             (bp (used.foldl (fun (s : St) (p : Nat × Nat) => bo s p.1 p.2 none) st) d { r := r, own := true, xs := xs ++ ys }) .fail
         | _ => N.fail).val = some aP →
       ∃ ys k s0, d = some k ∧ nth (used.foldl (fun (s : St) (p : Nat × Nat) => bo s p.1 p.2 none) st) k = some s0 ∧ (xs.length + ys.length) * bytes ≤ lim ∧ YJ w c.ok r uy ys ∧
         aP = mq (fun s => { s with v := .one (.ref k 0 (s0.ag + 1) .full), aK := [some { r := r, own := true, xs := xs ++ ys }], ag := s0.ag + 1 }) (used.foldl (fun (s : St) (p : Nat × Nat) => bo s p.1 p.2 none) st) k := by
     intro xs used hv
     cases y with
     | agg _ => simp [N.val] at hv
     | mz _ => simp [N.val] at hv
     | one cy =>
       obtain ⟨ys, hv, hr⟩ := Bq h hy hv; obtain ⟨hb, hv⟩ := eX hv; obtain ⟨k, s0, hk, iE, qn⟩ := mf hv; exact ⟨ys, k, s0, hk, iE, Nat.le_of_ble_eq_true hb, hr, qn⟩
   cases x with
   | agg _ => simp [N.val] at hv
   | mz _ => simp [N.val] at hv
   | one cx => cases cx with
     | dD =>
       obtain ⟨ys, k, s0, rfl, iE, hb, hr, rfl⟩ := tail [] [] hv; exact E8 hT h ht iE (hd k rfl) hb hr (.inl ⟨hx, rfl⟩)
     | ref a' j g vw =>
       simp only at hv
       cases hA : aQ st a' j g with
       | none => simp [hA, N.val] at hv
       | some A =>
         simp only [hA] at hv; obtain ⟨eW, hv⟩ := dv hv; rw [Bool.and_eq_true] at eW; have xi := Md.lS.1 eW.2; have eW := eW.1
         cases hc : bw r A.xs with
         | none => simp [hc, N.val] at hv
         | some xs =>
           simp only [hc] at hv; obtain ⟨e, he⟩ := a7 hc; subst e; simp only at he; subst he; obtain ⟨ys, k, s0, rfl, iE, hb, hr, rfl⟩ := tail (vw.app A.xs) [(a', j)] hv; obtain ⟨yS, kQ⟩ := h.kill a' j; obtain ⟨sl, CC, Q2, CD⟩ := ba hA; have Hy := h.aK a' j sl A CC CD; have hs := hx.2.2 A hA; refine E8 hT yS ht iE (hd k rfl) hb hr ?_
           cases hl : c.lc a' j with
           | nil =>
             unfold je at hs; rw [hl] at hs; exact .inl ⟨hs.1, List.length_eq_zero_iff.1 hs.2⟩
           | «at» b off cap =>
             unfold je at hs; rw [hl] at hs; obtain ⟨ad, n, rfl, hn, yX, Ho⟩ := hs; unfold bI at Hy; rw [hl] at Hy; obtain ⟨ho, _, aeq, eV⟩ := Hy; rw [eW] at ho; exact .inr ⟨a', j, b, off, vw.lo, cap, n, ad, ho, kQ, rfl, hn, yX, Ho, aeq, fun i x hi => (bm.sh xi).1 eV _ x (View.wK vw A.xs hi)⟩
     | _ => simp [N.val] at hv
theorem vF {w : World} {ok : Nat → Prop} : (r : RT) → (vs : List Value) → iX r vs → cD w ok r vs (sF r)
 | .nil, vs, h => h
 | .cons (.int k) r, vs, ⟨l, h, h'⟩ => ⟨.int k 0, l, h, qD.2 rfl, vF r l h'⟩
 | .cons .bool r, vs, ⟨l, h, h'⟩ => ⟨.bool false, l, h, rN.2 rfl, vF r l h'⟩
 | .cons .str r, vs, ⟨l, h, h'⟩ => ⟨.string ByteArray.empty, l, h, vv.2 rfl, vF r l h'⟩
 | .cons (.sl q) r, vs, ⟨l, h, h'⟩ => ⟨.slice none 0 0, l, h, (nA _ _ _ _ _).2 (.inl ⟨rfl, rfl⟩), vF r l h'⟩
theorem aW.replicate {w : World} {ok : Nat → Prop} {r : RT} {vs : List Value} {x : ar r} (h : cD w ok r vs x) : (n : Nat) → aW w ok r ((List.replicate n vs).flatten) (List.replicate n x)
 | 0 => rfl
 | n + 1 => ⟨vs, (List.replicate n vs).flatten, by simp [List.replicate_succ], h, aW.replicate h n⟩
theorem CR (z : Array Value) (n W : Nat) (hz : z.size = W) (hW : 0 < W) : ((Array.range (n * W)).map (z[· % z.size]!)).toList = (List.replicate n z.toList).flatten := by
 subst hz
 induction n with
 | zero => simp
 | succ n ih =>
   have e1 : ((Array.range ((n + 1) * z.size)).map (z[· % z.size]!)).toList = ((Array.range (n * z.size)).map (z[· % z.size]!)).toList ++ z.toList := by
     apply List.ext_getElem
     · simp [Nat.add_mul]
     · intro k h1 h2; simp only [Array.getElem_toList, Array.getElem_map, Array.getElem_range]; rw [List.getElem_append]
       by_cases hk : k < n * z.size
       · rw [dif_pos (by simpa using hk)]; simp
       · rw [dif_neg (by simpa using hk)]; have kQ : k < (n + 1) * z.size := by simpa using h1
         rw [Nat.add_mul, Nat.one_mul] at kQ; have hm : k % z.size = k - n * z.size := by
           have : k = (k - n * z.size) + n * z.size := by omega
           rw [this, Nat.add_mul_mod_self_right, Nat.mod_eq_of_lt (by omega)]; omega
         have bN : k - n * z.size < z.size := by omega
         simp [hm, bN]
   rw [e1, ih]; rw [List.replicate_succ', List.flatten_append]; simp
theorem OJ {P : Program} {T : ki} (hT : fI P T) {w0 : World} {mu : Mu} {c : Cz} {st : St} {a : Act} {w : World} (h : Rel w0 mu c st a w)
   {d : Option Nat} {t : Nat} {x y : V} {ux uy : Value} (hx : dU c st w x ux) (hy : dU c st w y uy) {aP : St} (hv : (Ot T st d t x y).val = some aP) (hd : ∀ k, d = some k → k < a.tmps.size) :
   ∃ v w', (Instr.makeSlice t ux uy).run P w = .ok v w' ∧ iJ w w' ∧ ∃ c', Rel w0 mu c' aP (a.put d v) w' := by
 unfold Ot at hv
 split at hv
 · rename_i r bytes n m ht; obtain ⟨N8, hv⟩ := eX hv; obtain ⟨hn, hv⟩ := eX hv; obtain ⟨hb, hv⟩ := eX hv; obtain ⟨k, s0, rfl, iE, rfl⟩ := mf hv; have N8 := of_decide_eq_true N8; have hn := of_decide_eq_true hn; have hb := Nat.le_of_ble_eq_true hb; subst N8; obtain ⟨n, rfl⟩ := Int.eq_ofNat_of_zero_le hn; obtain ⟨e, i, z, hu, hi, kO, CO, Zw, Lj, hz, Jm⟩ := hT.elem t r bytes ht; have HD : z.cells.size = r.width := by have := iX.length r _ Jm; simpa using this
   have e1 : ux = .int .i64 n := hx; have e2 : uy = .int .i64 n := hy; subst e1 e2; unfold lim at hb; simp only [Int.toNat_natCast] at hb; have YI : n ≤ 35184372088832 := by
     have : n * 1 ≤ n * bytes := Nat.mul_le_mul_left _ Lj; omega
   have ajR : IntKind.i64.wrap (n : Int) = n := by
     have := IntKind.wrap_i64 (n : Int); rw [this]; omega
   have oE : (Instr.makeSlice t (.int .i64 n) (.int .i64 n)).run P w =
       .ok (.slice (some ⟨w.heap.size, 0, none⟩) n n) (w.alloc (.cells ((Array.range (n * r.width)).map (z.cells[· % z.cells.size]!)) e (0, 0))) := by
     have := run_make (P := P) w t e i z hu hi hz .i64 .i64 n n (by omega) (Int.le_refl _) (by
       have h2 : ((i.bytes * n : Nat) : Int) ≤ 281474976710656 := by rw [Zw, Nat.mul_comm]; omega
       rwa [Int.natCast_mul] at h2) (by omega)
     simpa [madeCells, kO] using this
   refine ⟨_, _, oE, iJ.alloc _ _, ?_⟩
   cases YK : T.dp t with
   | true =>
     have := h.Gz (r := r) (P := fun _ _ => False) (g := fun _ => []) (xs := List.replicate n (sF r)) (cur := (Array.range (n * r.width)).map (z.cells[· % z.cells.size]!)) (ty := e) (cap := n) iE (hd k rfl) (by simp) (by simp) (cL.replicate (fun i => vD r [i] 0 _ Jm) n 0) (fun _ _ _ h => h.elim) (by
       rw [← CR z.cells n r.width HD CO, List.take_length])
     simpa using this
   | false =>
   have uU : aW w c.ok r ((List.replicate n z.cells.toList).flatten) (List.replicate n (sF r)) := aW.replicate (vF r _ Jm) n; have := h.fresh (r := r) (xs := List.replicate n (sF r)) (cur := (Array.range (n * r.width)).map (z.cells[· % z.cells.size]!)) (ty := e) (cap := n) iE (hd k rfl) (by simp) (by simp) uU (by
     rw [← CR z.cells n r.width HD CO, List.take_length])
   simpa using this
 · simp [N.val] at hv
end Go.TM
namespace Go.TM
open Go Go.RowKit
theorem zi (off : Nat) : (l : List Value) → (k : Nat) → (cells : Array Value) → off + k + l.length ≤ cells.size →
   ((l.zipIdx k).foldl (fun cs (p : Value × Nat) => cs.setIfInBounds (off + p.2) p.1) cells).toList = bC cells.toList (off + k) l
 | [], k, cells, _ => by simp [bC]
 | v :: l, k, cells, h => by
   simp only [List.zipIdx_cons, List.foldl_cons, List.length_cons] at h ⊢; rw [zi off l (k + 1) _ (by simp; omega)]; rw [Array.toList_setIfInBounds]; apply List.ext_getElem?; intro q; rw [kq (by simp; omega), kq (by simp; omega), List.getElem?_set]; simp only [List.length_cons]
   by_cases h1 : off + (k + 1) ≤ q ∧ q < off + (k + 1) + l.length
   · rw [if_pos h1, if_pos (by omega)]; rw [show q - (off + k) = (q - (off + (k + 1))) + 1 by omega, List.getElem?_cons_succ]
   · rw [if_neg h1]
     by_cases h2 : off + k = q
     · subst h2; rw [if_pos rfl, if_pos (by simp; omega), if_pos (by omega)]; simp
     · rw [if_neg h2, if_neg (by omega)]
theorem An {place : Nat → Option (Nat × Nat)} {cells : Array Value} {i : Nat} {v : Value} {rest : List (Nat × Value)} {off size : Nat} (hp : place i = some (off, size)) (hv : v.cells.size = size) (hle : off + size ≤ cells.size) :
   Instr.fill place cells ((i, v) :: rest) = Instr.fill place (bC cells.toList off v.cells.toList).toArray rest := by
 have hf := zi off v.cells.toList 0 cells (by simp; omega); have e : (v.cells.zipIdx.foldl (fun cs (p : Value × Nat) => cs.setIfInBounds (off + p.2) p.1) cells) = (bC cells.toList off v.cells.toList).toArray := by
   apply Array.ext'; rw [← Array.foldl_toList, Array.toList_zipIdx]; simpa using hf
 conv => lhs; unfold Instr.fill
 simp only [hp]; rw [if_neg (by simp; omega)]; exact congrArg (fun cs => Instr.fill place cs rest) e
def oF (c : Cz) (st : St) (w : World) (ps : List (Nat × V)) (us : List (Nat × Value)) : Prop :=
 ps.length = us.length ∧ ∀ (i : Nat) p u, ps[i]? = some p → us[i]? = some u → p.1 = u.1 ∧ dU c st w p.2 u.2
theorem oF.cons {c : Cz} {st : St} {w : World} {p : Nat × V} {u : Nat × Value} {ps : List (Nat × V)} {us : List (Nat × Value)} (h : oF c st w (p :: ps) (u :: us)) :
   (p.1 = u.1 ∧ dU c st w p.2 u.2) ∧ oF c st w ps us :=
 ⟨h.2 0 p u rfl rfl, by have := h.1; simpa using this, fun i a b ha hb => h.2 (i + 1) a b (by simpa using ha) (by simpa using hb)⟩
theorem zj {w0 : World} {mu : Mu} {c : Cz} {st : St} {a : Act} {w : World} (h : Rel w0 mu c st a w) {r : RT} (hW : 0 < r.width) : (ps : List (Nat × V)) → (us : List (Nat × Value)) → oF c st w ps us →
   (i : Nat) → (k : List (ar r) → List (Nat × Nat) → N) → {aP : St} → (wJ st r i ps k).val = some aP → (cells : Array Value) → cells.size = (i + ps.length) * r.width →
   ∃ xs m, (k xs m).val = some aP ∧ xs.length = ps.length ∧ (∀ p ∈ m, ∃ g A, aQ st p.1 p.2 g = some A) ∧
     ∃ vs : List Value, vs.length = ps.length * r.width ∧ Instr.fill (fun i => some (i * r.width, r.width)) cells us = some (cells.toList.take (i * r.width) ++ vs).toArray ∧
     ∀ ok : Nat → Prop, (∀ b, c.ok b → ok b) → (∀ p ∈ m, ∀ b, c.own b = some (.sp p.1 p.2) → ok b) → aW w ok r vs xs
 | [], us, hp, i, k, aP, hv, cells, kO => by
   have : us = [] := by have := hp.1; simp at this; exact List.length_eq_zero_iff.1 this.symm
   subst this; refine ⟨[], [], hv, rfl, fun p hp => by simp at hp, [], by simp, ?_, fun _ _ _ => rfl⟩; simp only [Instr.fill, List.append_nil]; simp at kO; rw [List.take_of_length_le (by simp; omega)]
 | (p, v) :: ps, us, hp, i, k, aP, hv, cells, kO => by
   cases us with
   | nil => have := hp.1; simp at this
   | cons u us =>
     obtain ⟨⟨Td, YL⟩, ku⟩ := hp.cons; simp only [wJ] at hv; obtain ⟨hc, hv⟩ := dv hv; rw [Bool.and_eq_true] at hc; have UC := Nat.eq_of_beq_eq_true hc.2; obtain ⟨oT, _⟩ := YL.cells hc.1; obtain ⟨x, m1, h1, h2, h3⟩ := yZ h r v.cells _ oT _ hv; have hlen : u.2.cells.toList.length = r.width := by
       have := h3 (fun _ => True) (fun _ _ => trivial) (fun _ _ _ _ => trivial); exact cD.length r _ x this
     simp only [List.length_cons] at kO; have hm1 : (i + (ps.length + 1)) * r.width = i * r.width + r.width + ps.length * r.width := by rw [Nat.add_mul, Nat.add_mul]; omega
     have hle : i * r.width + r.width ≤ cells.size := by omega
     have HF := An (place := fun i => some (i * r.width, r.width)) (cells := cells) (i := i) (v := u.2) (rest := us) rfl (by simpa using hlen) hle; obtain ⟨xs, m2, g1, g2, g3, vs, g4, g5, g6⟩ := zj h hW ps us ku (i + 1) _ h1 (bC cells.toList (i * r.width) u.2.cells.toList).toArray (by
       rw [List.size_toArray, ga (by simp at hlen ⊢; omega)]; simp; rw [kO]; congr 1; omega)
     refine ⟨x :: xs, m1 ++ m2, g1, by simp [g2], fun q hq => ?_, u.2.cells.toList ++ vs, by simp at hlen ⊢; rw [hlen, g4, Nat.add_mul]; omega, ?_, fun ok ho hm => ⟨_, vs, rfl, h3 ok ho (fun q hq => hm q (by simp [hq])), g6 ok ho (fun q hq => hm q (by simp [hq]))⟩⟩
     · rcases List.mem_append.1 hq with hq | hq
       · exact h2 q hq
       · exact g3 q hq
     · have e : (u : Nat × Value) = (i, u.2) := by rw [← UC]; simp at Td; rw [Td]
       rw [e, HF, g5]
       congr 2
       rw [← List.append_assoc]
       congr 1
       show List.take ((i + 1) * r.width) (bC cells.toList (i * r.width) u.2.cells.toList) = _; unfold bC; rw [Nat.add_mul, Nat.one_mul]; rw [List.take_append_of_le_length (by simp at hlen ⊢; omega)]; rw [List.take_of_length_le (by simp at hlen ⊢; omega)]
theorem CS {P : Program} {T : ki} (hT : fI P T) {w0 : World} {mu : Mu} {c : Cz} {st : St} {a : Act} {w : World} (h : Rel w0 mu c st a w)
   {d : Option Nat} {t len : Nat} {ps : List (Nat × V)} {us : Array (Nat × Value)} (hp : oF c st w ps us.toList) {aP : St} (hv : (vr T st d t len ps).val = some aP) (hd : ∀ k, d = some k → k < a.tmps.size) :
   ∃ v w', (Instr.buildSlice t len us).run P w = .ok v w' ∧ iJ w w' ∧ ∃ c', Rel w0 mu c' aP (a.put d v) w' := by
 unfold vr at hv
 cases ht : T.elem t with
 | none => simp [ht, N.val] at hv
 | some p =>
   obtain ⟨r, bytes⟩ := p; simp only [ht] at hv; obtain ⟨hc, hv⟩ := dv hv; rw [Bool.and_eq_true] at hc; have hlen := Nat.eq_of_beq_eq_true hc.1; have aer := Nat.le_of_ble_eq_true hc.2; obtain ⟨e, i, z, hu, hi, kO, CO, Zw, Lj, hz, Jm⟩ := hT.elem t r bytes ht; have HD : z.cells.size = r.width := by have := iX.length r _ Jm; simpa using this
   cases OK : (bif T.dp t then Jx st r ps else none) with
   | some pq =>
     obtain ⟨x1, m⟩ := pq; rw [OK] at hv; simp only at hv; obtain ⟨hdi, hv⟩ := dv hv; obtain ⟨k, s0, rfl, iE, rfl⟩ := mf hv; obtain ⟨_, OK⟩ := aH OK; unfold Jx at OK
     split at OK
     · -- no row
       simp only [Option.some.injEq, Prod.mk.injEq] at OK; obtain ⟨rfl, rfl⟩ := OK; have Lh : len = 0 := by simpa using hlen.symm
       subst Lh; have Fb : us = #[] := by have := hp.1; simp at this; exact Array.eq_empty_of_size_eq_zero this.symm
       subst Fb; have CT : (Instr.buildSlice t 0 #[]).run P w = .ok (.slice (some ⟨w.heap.size, 0, none⟩) 0 0) (w.alloc (.cells #[] e (0, 0))) := by
         simp [Instr.buildSlice, run_underlying hu, sizeOf, typeInfo, hi, Instr.fill, newRow, show Array.range 0 = #[] from rfl]
       have N9 := h.Gz (r := r) (P := fun _ _ => False) (g := fun _ => []) (xs := []) (cur := #[]) (ty := e) (cap := 0) iE (hd k rfl) (by simp) (by simp) (vs := []) rfl (fun _ _ _ h => h.elim) rfl; exact ⟨_, _, CT, iJ.alloc _ _, N9⟩
     · rename_i i0 v0 _; obtain ⟨hc2, Mo⟩ := aH OK; clear OK; rw [Bool.and_eq_true] at hc2; obtain ⟨x2, aet, Ez⟩ : ∃ x2, gC st r v0.cells = some (x2, m) ∧ x1 = [x2] := by
         cases hq : gC st r v0.cells with
         | none => rw [hq] at Mo; cases Mo
         | some q =>
           rw [hq] at Mo; simp only [Option.some.injEq, Prod.mk.injEq] at Mo; exact ⟨q.1, by rw [← Mo.2], Mo.1.symm⟩
       subst Ez; have Te := Nat.eq_of_beq_eq_true hc2.2; subst Te; obtain ⟨⟨i1, u1⟩, Fb⟩ : ∃ u1, us.toList = [u1] := by
         have := hp.1
         match hl : us.toList with
         | [] => rw [hl] at this; simp at this
         | [u1] => exact ⟨u1, rfl⟩
         | _ :: _ :: _ => rw [hl] at this; simp at this
       obtain ⟨Td, YL⟩ := hp.2 0 (0, v0) (i1, u1) rfl (by rw [Fb]; rfl); simp only at Td YL; subst Td; obtain ⟨oT, Cc⟩ := YL.cells hc2.1; obtain ⟨Ry, hmo, G, hG⟩ := zg h r v0.cells _ oT aet; have JG := mH hdi; obtain ⟨yS, kQ, _, _, _⟩ := kP (dE m) h; have hR := yS.iY kQ k 0; have ZA : len = 1 := by simpa using hlen.symm
       subst ZA; have hD := hG (fun p k => (∃ n ∈ dE m, c.own k = some (.sp n.1 n.2)) ∧ ∀ (col : Nat) (n : Nat × Nat), m[col]? = some (some n) → c.own k = some (.sp n.1 n.2) → p = [0] ++ [col] ++ G col k) [0] 0 (fun col n k hc hk => ⟨⟨n, kt hc, hk⟩, fun aej n' h1 h2 => by
         rw [hk] at h2; injection h2 with h2; injection h2 with q1 q2; have : n = n' := Prod.ext q1 q2; subst this; rw [tF JG h1 hc, Nat.zero_add]⟩)
       have E7 := dg.length r _ _ _ _ hD; obtain ⟨g', _, p2⟩ := Am (c := c) JG G (fun _ => []) [0] .out (fun n _ => by simp); have HF := An (place := fun i => some (i * r.width, r.width)) (cells := (Array.range (1 * r.width)).map (z.cells[· % z.cells.size]!)) (i := 0) (v := u1) (rest := []) rfl (by simpa using E7) (by simp); have CT : (Instr.buildSlice t 1 us).run P w = .ok (.slice (some ⟨w.heap.size, 0, none⟩) 1 1) (w.alloc (.cells u1.cells e (0, 0))) := by
         refine run_buildSlice (P := P) w t e 1 us u1.cells i z hu hi hz (by rw [kO]; omega) (by rw [kO]; intro h; rcases Nat.mul_eq_zero.1 h with h | h <;> omega) ?_; rw [Fb, kO, HF]; simp only [Instr.fill]
         congr 1
         apply Array.ext'; show bC _ _ _ = _; unfold bC; rw [List.drop_eq_nil_of_le (by simp at E7 ⊢; omega)]; simp
       have N9 := hR.Gz (r := r) (xs := [x2]) (cur := u1.cells) (ty := e) (cap := 1) (g := g') iE (hd k rfl) (by simp) (by simp at E7 ⊢; omega) (vs := u1.cells.toList) ⟨_, [], by simp, hD, rfl⟩ (fun i q k hk => by
         obtain ⟨⟨n, hn, yS⟩, kQ⟩ := hk; obtain ⟨col, hc⟩ := xG hn; refine ⟨Cz.mG hn yS, ?_⟩; rw [p2 col n k hc yS]; exact (kQ col n hc yS).symm) (List.take_length)
       exact ⟨_, _, CT, iJ.alloc _ _, N9⟩
     · cases OK
   | none =>
   rw [OK] at hv; simp only at hv; obtain ⟨xs, m, h1, h2, h3, vs, h4, h5, h6⟩ := zj h CO ps us.toList hp 0 _ hv ((Array.range (len * r.width)).map (z.cells[· % z.cells.size]!)) (by simp [hlen]); obtain ⟨k, s0, rfl, iE, rfl⟩ := mf h1; have uU : aW w (c.drop m).ok r vs xs := h6 _ (fun b hb => Cz.yY m c b hb) (fun p hp k hk => Cz.Ck m c k hk hp); have ZB : xs.length = len := by rw [h2, hlen]
   have CT : (Instr.buildSlice t len us).run P w = .ok (.slice (some ⟨w.heap.size, 0, none⟩) len len) (w.alloc (.cells vs.toArray e (0, 0))) := by
     simp only [Nat.zero_mul, List.take_zero, List.nil_append] at h5
     by_cases h0 : len = 0
     · subst h0; have Rz : ps = [] := List.length_eq_zero_iff.1 hlen; subst Rz; have Fb : us = #[] := by have := hp.1; simp at this; exact Array.eq_empty_of_size_eq_zero this.symm
       subst Fb; have ze : vs = [] := by simp at h4; exact h4
       subst ze; simp [Instr.buildSlice, run_underlying hu, sizeOf, typeInfo, hi, Instr.fill, newRow, show Array.range 0 = #[] from rfl]
     · refine run_buildSlice (P := P) w t e len us vs.toArray i z hu hi hz (by rw [kO]; omega) (by rw [kO]; intro h; rcases Nat.mul_eq_zero.1 h with h | h <;> omega) ?_; rw [kO]; exact h5
   have N9 := (h.freeze m).fresh (r := r) (xs := xs) (cur := vs.toArray) (ty := e) (cap := len) iE (hd k rfl) (by omega) (by simp [h4, hlen]) uU (by simp); rw [ZB] at N9; exact ⟨_, _, CT, iJ.alloc _ _, N9⟩
theorem iX.rel {c : Cz} {st : St} {w : World} : (r : RT) → (vs : List Value) → iX r vs → eH c st w ((dG r (sF r)).map fun | .shr _ _ => .dD | c => c) vs
 | .nil, vs, h => by simp only [iX] at h; subst h; exact ⟨rfl, fun i x v hx => by simp [dG] at hx⟩
 | .cons t r, vs, h => by
   have key : ∃ v l x, vs = v :: l ∧ iX r l ∧ ((fun | .shr _ _ => .dD | c => c : CV → CV) (Ju t (Jt t))) = x ∧ jw c st w x v := by
     cases t with
     | int k => obtain ⟨l, h, h'⟩ := h; exact ⟨_, l, _, h, h', rfl, rfl⟩
     | bool => obtain ⟨l, h, h'⟩ := h; exact ⟨_, l, _, h, h', rfl, rfl⟩
     | str => obtain ⟨l, h, h'⟩ := h; exact ⟨_, l, _, h, h', rfl, rfl⟩
     | sl q => obtain ⟨l, h, h'⟩ := h; exact ⟨_, l, _, h, h', rfl, rfl⟩
   obtain ⟨v, l, x, rfl, hl, hx, hr⟩ := key; obtain ⟨h1, h2⟩ := iX.rel (c := c) (st := st) (w := w) r l hl; refine ⟨by simp [dG] at h1 ⊢; exact h1, fun i y u hy hu => ?_⟩
   cases i with
   | zero =>
     simp [dG, sF] at hy hu; subst hu; rw [← hy]; have : (match Ju t (Jt t) with | .shr _ _ => CV.dD | c => c) = x := hx; rw [this]; exact hr
   | succ i => exact h2 i y u (by simpa [dG, sF] using hy) (by simpa using hu)
theorem vG {c : Cz} {st : St} {w : World} {r : RT} {vs : List Value} (h : iX r vs) : eH c st w (nE r) vs := iX.rel r vs h
theorem zk {P : Program} {T : ki} {c : Cz} {st : St} {w : World} {t : Nat} {bT : List (Nat × Nat)} (RA : ∀ f o s, T.off t f = some o → T.Zl t f = some s → bT[f]? = some (o, s)) :
   (ps : List (Nat × V)) → (us : List (Nat × Value)) → oF c st w ps us → (cs l : List CV) → (cells : Array Value) → eH c st w cs cells.toList → nG T t cs ps = some l →
   ∃ ti, Instr.fill (bT.toArray[·]?) cells us = some ti ∧ eH c st w l ti.toList
 | [], us, hp, cs, l, cells, hl, h => by
   have : us = [] := by have := hp.1; simp at this; exact List.length_eq_zero_iff.1 this.symm
   subst this; simp only [nG, Option.some.injEq] at h; subst h; exact ⟨cells, rfl, hl⟩
 | (f, v) :: ps, us, hp, cs, l, cells, hl, h => by
   cases us with
   | nil => have := hp.1; simp at this
   | cons u us =>
     obtain ⟨⟨Td, YL⟩, ku⟩ := hp.cons; simp only [nG] at h
     cases ho : T.off t f with
     | none => simp [ho] at h
     | some o =>
       cases hs : T.Zl t f with
       | none => simp [ho, hs] at h
       | some s =>
         simp only [ho, hs] at h; obtain ⟨hc, h⟩ := aH h; rw [Bool.and_eq_true] at hc; obtain ⟨oT, _⟩ := YL.cells hc.1; have hlen : v.cells.length = s := Nat.eq_of_beq_eq_true hc.2
         cases hpc : putCells cs o v.cells with
         | none => simp [hpc] at h
         | some mA =>
           simp only [hpc] at h; obtain ⟨hle, rfl⟩ := xt hpc; have h1 := hl.1; have h2 := oT.1; have HF := An (place := (bT.toArray[·]?)) (cells := cells) (i := f) (v := u.2) (rest := us) (off := o) (size := s) (by simpa using RA f o s ho hs) (by simp at h2; omega) (by simp at h1 h2; omega); obtain ⟨ti, g1, g2⟩ := zk (P := P) RA ps us ku _ l (bC cells.toList o u.2.cells.toList).toArray (by simpa using hl.bC oT o hle) h; refine ⟨ti, ?_, g2⟩; have e : (u : Nat × Value) = (f, u.2) := by simp at Td; rw [Td]
           rw [e, HF]; exact g1
theorem OL {P : Program} {T : ki} (hT : fI P T) {w0 : World} {mu : Mu} {c : Cz} {st : St} {a : Act} {w : World} (h : Rel w0 mu c st a w)
   {d : Option Nat} {t : Nat} {r : RT} {ps : List (Nat × V)} {us : Array (Nat × Value)} {l : List CV} (hr : T.row t = some r) (hg : T.agg t = true) (hp : oF c st w ps us.toList)
   (hf : nG T t (nE r) ps = some l) (hd : ∀ k, d = some k → k < a.tmps.size) :
   ∃ v, (∀ w' : World, (Instr.build t us).run P w' = .ok v w') ∧ Rel w0 mu c (aS st d (.agg l)) (a.put d v) w := by
 obtain ⟨i, z, hi, hz, Jm⟩ := hT.row t r hr; obtain ⟨fs, bT, hu, RA, hpo⟩ := hT.bld t hg; obtain ⟨ti, g1, g2⟩ := zk (P := P) (c := c) (st := st) (w := w) hpo ps us.toList hp (nE r) l z.cells (vG Jm) hf; refine ⟨.agg ti, fun w' => run_build w' t us ti ?_, h.aS ⟨ti, rfl, g2⟩ hd⟩; unfold Program.built; simp only [hi, hu, hz, RA]; exact g1
end Go.TM
namespace Go.TM
open Go Go.RowKit
theorem OM {P : Program} {w : World} {op : BinOp} {t : TypeId} {k : IntKind} {a b : Int} {r : Bool} (h : Om op a b = some r) :
   (binOp op t (.int k a) (.int k b)).run P w = .ok (.bool r) w := by
 cases op <;> simp only [Om, Option.some.injEq, reduceCtorEq] at h <;> subst h <;> unfold binOp Op.intCmp <;> simp <;> rfl
theorem JK {P : Program} {w : World} {op : BinOp} {t : TypeId} {k : IntKind} {a b n : Int} (h : Cv op k a b = some n) :
   (binOp op t (.int k a) (.int k b)).run P w = .ok (.int k n) w := by
 cases op <;> simp [Cv] at h <;> subst h <;> simp [binOp, Op.intArith, Op.intBits]
theorem ON {P : Program} {w : World} {op : BinOp} {t : TypeId} {k : IntKind} {a b n : Int} (h : On op k a b = some n) (hb : b ≠ 0) :
   (binOp op t (.int k a) (.int k b)).run P w = .ok (.int k n) w := by
 cases op <;> simp [On] at h <;> subst h <;> simp [binOp, Op.intDiv, hb]
theorem JL {P : Program} {w : World} {op : BinOp} {t : TypeId} {k l : IntKind} {a b n : Int} (h : Cw op k a b.toNat = some n) (hb : 0 ≤ b) :
   (binOp op t (.int k a) (.int l b)).run P w = .ok (.int k n) w := by
 have lV : ¬ b < 0 := by omega
 cases op <;> simp [Cw] at h <;> subst h <;> simp [binOp, Op.shift, lV]
theorem lA {P : Program} {w : World} (op : BinOp) (t : TypeId) (x y : Operand) (a b : Value) (h : ¬ (a = .nilIface ∧ b = .nilIface)) (h2 : ∀ l m, ¬ (a = .agg l ∧ b = .agg m)) :
   (eqGuard op t x y a b).run P w = .ok () w := by
 unfold eqGuard
 cases op <;> cases a <;> cases b <;> simp_all
theorem RB {P : Program} {T : ki} (hT : fI P T) {w0 : World} {mu : Mu} {c : Cz} {st : St} {a : Act} {w : World} (h : Rel w0 mu c st a w) (hE : ∀ t, T.eq t = true → ∀ (l m : List CV) (us vs : Array Value) (b : Bool) (op : BinOp) (ox oy : Operand), T.fits t l = true → mC l m = some b →
     eH c st w l us.toList → eH c st w m vs.toList → ∀ w' : World, (eqGuard op t ox oy (.agg us) (.agg vs)).run P w' = .ok () w' ∧ (Op.equal t (.agg us) (.agg vs)).run P w' = .ok b w')
   {d : Option Nat} {t : Nat} {op : BinOp} {ox oy : Operand} {x y : V} {ux uy : Value} (hx : dU c st w x ux) (hy : dU c st w y uy) {aP : St} (hv : (u7 T st d op t x y).val = some aP) (hd : ∀ k, d = some k → k < a.tmps.size) :
   ∃ v, (∀ w' : World, (do eqGuard op t ox oy ux uy; binOp op t ux uy : Sem Value).run P w' = .ok v w') ∧ Rel w0 mu c aP (a.put d v) w := by
 have fin : ∀ (cv : CV) (v : Value), jw c st w cv v → (N.done (aS st d (.one cv))).val = some aP → (∀ w' : World, (eqGuard op t ox oy ux uy).run P w' = .ok () w') → (∀ w' : World, (binOp op t ux uy).run P w' = .ok v w') →
     ∃ v, (∀ w' : World, (do eqGuard op t ox oy ux uy; binOp op t ux uy : Sem Value).run P w' = .ok v w') ∧ Rel w0 mu c aP (a.put d v) w := by
   intro cv v hr qn hg hb; simp only [N.val, Option.some.injEq] at qn; subst qn; refine ⟨v, fun w' => ?_, h.aS hr hd⟩; simp [Sem.run_bind, hg, hb]
 cases x with
 | mz _ => simp [u7, N.val] at hv
 | agg l => cases y with
   | mz _ => simp [u7, N.val] at hv
   | one _ => simp [u7, N.val] at hv
   | agg m =>
     obtain ⟨us, rfl, hl⟩ := hx; obtain ⟨vs, rfl, hm⟩ := hy; simp only [u7] at hv; obtain ⟨ht, hv⟩ := dv hv; rw [Bool.and_eq_true] at ht; obtain ⟨ht, oT⟩ := ht
     cases hc : mC l m with
     | none => cases op <;> simp [hc, N.val] at hv
     | some b =>
       have g := hE t ht l m us vs b op ox oy oT hc hl hm
       cases op <;> simp only [hc] at hv <;> try (simp [N.val] at hv; done)
       · exact fin (.bool b) (.bool b) rfl hv (fun w' => (g w').1) (fun w' => by simp [binOp, Sem.run_bind, (g w').2])
       · exact fin (.bool (!b)) (.bool (!b)) rfl hv (fun w' => (g w').1) (fun w' => by simp [binOp, Sem.run_bind, (g w').2])
 | one cx => cases y with
   | mz _ => cases cx <;> simp [u7, N.val] at hv
   | agg _ => cases cx <;> simp [u7, N.val] at hv
   | one cy =>
     cases cx <;> cases cy <;> try (simp [u7, N.val] at hv; done)
     · rename_i k p l q; have e1 : ux = .int k p := hx; have e2 : uy = .int l q := hy; subst e1 e2; have hg := fun w' => lA (P := P) (w := w') op t ox oy (.int k p) (.int l q) (by simp) (by simp)
       simp only [u7] at hv
       by_cases hs : op = .shl ∨ op = .shr
       · have nv : (match Cw op k p q.toNat with | some n => N.br (decide (0 ≤ q)) (.done (aS st d (.one (.int k n)))) .fail | none => .fail).val = some aP := by
           rcases hs with rfl | rfl <;> exact hv
         cases hsh : Cw op k p q.toNat with
         | none => simp [hsh, N.val] at nv
         | some n =>
           simp only [hsh] at nv; obtain ⟨hq, nv⟩ := eX nv; exact fin (.int k n) (.int k n) rfl nv hg (fun _ => JL hsh (of_decide_eq_true hq))
       · have nv : (if k = l then (match Om op p q with
             | some t => N.done (aS st d (.one (.bool t)))
             | none => match Cv op k p q with
               | some n => .done (aS st d (.one (.int k n)))
               | none => match On op k p q with
                 | some n => .br (decide (q = 0)) .fail (.done (aS st d (.one (.int k n))))
                 | none => .fail) else .fail).val = some aP := by
           cases op <;> first | exact hv | exact absurd (.inl rfl) hs | exact absurd (.inr rfl) hs
         by_cases hk : k = l
         · subst hk; rw [if_pos rfl] at nv
           cases hc : Om op p q with
           | some r => simp only [hc] at nv; exact fin (.bool r) (.bool r) rfl nv hg (fun _ => OM hc)
           | none =>
             simp only [hc] at nv
             cases ha : Cv op k p q with
             | some n => simp only [ha] at nv; exact fin (.int k n) (.int k n) rfl nv hg (fun _ => JK ha)
             | none =>
               simp only [ha] at nv
               cases ZC : On op k p q with
               | none => simp [ZC, N.val] at nv
               | some n =>
                 simp only [ZC] at nv; rcases vE nv with ⟨_, nv⟩ | ⟨hq, nv⟩
                 · simp [N.val] at nv
                 · exact fin (.int k n) (.int k n) rfl nv hg (fun _ => ON ZC (of_decide_eq_false hq))
         · rw [if_neg hk] at nv; simp [N.val] at nv
     · rename_i p q; have e1 : ux = .bool p := hx; have e2 : uy = .bool q := hy; subst e1 e2; have hg := fun w' => lA (P := P) (w := w') op t ox oy (.bool p) (.bool q) (by simp) (by simp)
       have hq : ∀ u, P.underlying t = some u → u = .bool → ∀ w' : World, (Op.equal t (.bool p) (.bool q)).run P w' = .ok (p == q) w' := by
         rintro u hu rfl w'
         have e : Op.equal t (.bool p) (.bool q) = Op.equalIn ((Op.maxDepth - 1) + 1) t (.bool p) (.bool q) := rfl; rw [e]; simp only [Op.equalIn]; simp [run_underlying hu]
       cases hk : T.kind t with
       | none => cases op <;> simp [u7, hk, N.val] at hv
       | some ty => cases ty with
         | int _ => cases op <;> simp [u7, hk, N.val] at hv
         | str => cases op <;> simp [u7, hk, N.val] at hv
         | sl _ => cases op <;> simp [u7, hk, N.val] at hv
         | bool =>
           obtain ⟨u, hu, hud⟩ := hT.kind t .bool hk; have := hq u hu hud
           cases op <;> simp only [u7, hk] at hv <;> try (simp [N.val] at hv; done)
           · exact fin (.bool (p == q)) (.bool (p == q)) rfl hv hg (fun w' => by simp [binOp, this w'])
           · exact fin (.bool (!(p == q))) (.bool (!(p == q))) rfl hv hg (fun w' => by simp [binOp, this w'])
     · rename_i p q; have e1 : ux = .string p := hx; have e2 : uy = .string q := hy; subst e1 e2; have hg := fun w' => lA (P := P) (w := w') op t ox oy (.string p) (.string q) (by simp) (by simp)
       simp only [u7] at hv
       cases op <;> simp only at hv <;> try (simp [N.val] at hv; done)
       · obtain ⟨hb, hv⟩ := eX hv; have hb := Nat.le_of_ble_eq_true hb; unfold lim at hb; refine fin (.str (p ++ q)) (.string (p ++ q)) rfl hv hg (fun w' => ?_); have : ¬ ((p.size + q.size : Nat) : Int) > IntKind.i64.max := by
           have : IntKind.i64.max = 9223372036854775807 := by decide
           omega
         simp only [binOp, Op.stringOp]; rw [if_neg this]; rfl
       · exact fin (.bool (j3 p q)) (.bool (j3 p q)) rfl hv hg (fun w' => by simp [binOp, Op.stringOp, j3])
       · exact fin (.bool (!j3 p q)) (.bool (!j3 p q)) rfl hv hg (fun w' => by simp [binOp, Op.stringOp, j3])
     · have e1 : ux = .slice none 0 0 := hx; have e2 : uy = .slice none 0 0 := hy; subst e1 e2; have hg := fun w' => lA (P := P) (w := w') op t ox oy (.slice none 0 0) (.slice none 0 0) (by simp) (by simp)
       simp only [u7] at hv
       cases he : T.elem t with
       | none => cases op <;> simp [he, N.val] at hv
       | some p =>
         obtain ⟨e, i, z, hu, _⟩ := hT.elem t p.1 p.2 he; have hq := fun w' => run_equal_slice_nil (P := P) w' t e none 0 0 hu
         cases op <;> simp only [he] at hv <;> try (simp [N.val] at hv; done)
         · exact fin (.bool true) (.bool true) rfl hv hg (fun w' => by simp [binOp, hq w'])
         · exact fin (.bool false) (.bool false) rfl hv hg (fun w' => by simp [binOp, hq w'])
     · rename_i r xs; have e2 : uy = .slice none 0 0 := hy; subst e2; obtain ⟨h1, h2⟩ := hx; rcases (nA _ _ _ _ _).1 h1 with ⟨h3, _⟩ | ⟨a0, cap, h3, _⟩
       · exact absurd h3 h2
       · subst h3; have hg := fun w' => lA (P := P) (w := w') op t ox oy (.slice (some a0) (List.length xs) cap) (.slice none 0 0) (by simp) (by simp)
         simp only [u7] at hv
         cases he : T.elem t with
         | none => cases op <;> simp [he, N.val] at hv
         | some p =>
           obtain ⟨e, i, z, hu, _⟩ := hT.elem t p.1 p.2 he; have hq := fun w' => run_equal_slice_nil (P := P) w' t e (some a0) (List.length xs) cap hu
           cases op <;> simp only [he] at hv <;> try (simp [N.val] at hv; done)
           · exact fin (.bool false) (.bool false) rfl hv hg (fun w' => by simp [binOp, hq w'])
           · exact fin (.bool true) (.bool true) rfl hv hg (fun w' => by simp [binOp, hq w'])
theorem Ll {P : Program} {T : ki} (hT : fI P T) {t : Nat} (h : T.kind t = some .str) : P.underlying t = some .string := by
 obtain ⟨u, hu, hd⟩ := hT.kind t .str h; simp only [descOf] at hd; rw [hu, hd]
theorem HG {w0 : World} {mu : Mu} {c : Cz} {st : St} {a : Act} {w : World} (_h : Rel w0 mu c st a w) {a' j g : Nat} {vw : View} {A : gP} {u : Value} (hA : aQ st a' j g = some A)
   (hu : jw c st w (.ref a' j g vw) u) : ∃ ad k, u = .slice ad (vw.app A.xs).length k := by
 have hs := hu.2.2 A hA
 cases hl : c.lc a' j with
 | nil => unfold je at hs; rw [hl] at hs; exact ⟨none, 0, by rw [hs.2]; exact hs.1⟩
 | «at» b off cap => unfold je at hs; rw [hl] at hs; obtain ⟨ad, k, h1, _⟩ := hs; exact ⟨some ad, k, h1⟩
theorem RC {P : Program} {T : ki} (hT : fI P T) {w0 : World} {mu : Mu} {c : Cz} {st : St} {a : Act} {w : World} (h : Rel w0 mu c st a w)
   {d : Option Nat} {t ty : Nat} {x : V} {ux : Value} (hx : dU c st w x ux) {aP : St} (hv : (Gm T st d t x).val = some aP) (hd : ∀ k, d = some k → k < a.tmps.size) :
   ∃ v, (∀ w' : World, (Builtin.len_ #[t] ty #[ux]).run P w' = .ok v w') ∧ Rel w0 mu c aP (a.put d v) w := by
 have sl : ∀ (n : Nat) (ad : Option Addr) (k : Nat), (T.elem t).isSome = true → ux = .slice ad n k → (N.done (aS st d (.one (.int .i64 n)))).val = some aP →
     ∃ v, (∀ w' : World, (Builtin.len_ #[t] ty #[ux]).run P w' = .ok v w') ∧ Rel w0 mu c aP (a.put d v) w := by
   intro n ad k he hu qn; simp only [N.val, Option.some.injEq] at qn; subst qn
   cases hq : T.elem t with
   | none => simp [hq] at he
   | some p =>
     obtain ⟨r, b⟩ := p; obtain ⟨e, _, _, hd1, _⟩ := hT.elem t r b hq; subst hu; exact ⟨.int .i64 n, (fun w' => by simp [Builtin.len_, run_underlying hd1, goInt]), h.aS (u := .int .i64 n) rfl hd⟩
 cases x with
 | agg _ => simp [Gm, N.val] at hv
 | mz _ => simp [Gm, N.val] at hv
 | one cx => cases cx with
   | str s =>
     simp only [Gm] at hv
     cases hk : T.kind t with
     | none => simp [hk, N.val] at hv
     | some y => cases y with
       | str =>
         simp only [hk, N.val, Option.some.injEq] at hv; subst hv; have e : ux = .string s := hx; subst e; exact ⟨.int .i64 s.size, (fun w' => by simp [Builtin.len_, run_underlying (Ll hT hk), goInt]), h.aS (u := .int .i64 s.size) rfl hd⟩
       | _ => simp [hk, N.val] at hv
   | dD =>
     simp only [Gm] at hv
     cases hk : T.elem t with
     | none => simp [hk, N.val] at hv
     | some p => simp only [hk] at hv; exact sl 0 none 0 (by simp [hk]) hx hv
   | shr r xs =>
     simp only [Gm] at hv
     cases hk : T.elem t with
     | none => simp [hk, N.val] at hv
     | some p =>
       simp only [hk] at hv; rcases (nA _ _ _ _ _).1 hx with ⟨h1, h2⟩ | ⟨ad, k, h1, _⟩
       · exact sl xs.length none 0 (by simp [hk]) (by rw [h1, h2]; rfl) hv
       · exact sl xs.length (some ad) k (by simp [hk]) h1 hv
   | ref a' j g vw =>
     simp only [Gm] at hv
     cases hk : T.elem t with
     | none => simp [hk, N.val] at hv
     | some p =>
       cases hA : aQ st a' j g with
       | none => simp [hk, hA, N.val] at hv
       | some A =>
         simp only [hk, hA] at hv; obtain ⟨ad, k, hu⟩ := HG h hA hx; exact sl _ ad k (by simp [hk]) hu hv
   | _ => simp [Gm, N.val] at hv
theorem Bv {P : Program} {t e : TypeId} {i : TypeInfo} (hu : P.underlying t = some (.slice e)) (hi : P.info? e = some i) (w : World) (k : IntKind) (a : Addr) (n c : Nat) (j : Int) (h0 : 0 ≤ j) (hj : j < n) :
   (Instr.indexAt t (.slice (some a) n c) (.int k j)).run P w = .ok (.pointer (some (a.add (j.toNat * i.size)))) w := by
 simp [Instr.indexAt, asIntOf, run_underlying hu, sizeOf, typeInfo, hi, h0, hj]
theorem Mp {P : Program} {T : ki} (hT : fI P T) {w0 : World} {mu : Mu} {c : Cz} {st : St} {a : Act} {w : World} (h : Rel w0 mu c st a w)
   {d : Option Nat} {t : Nat} {x y : V} {ux uy : Value} (hx : dU c st w x ux) (hy : dU c st w y uy) {aP : St} (hv : (oV T st d t x y).val = some aP) (hd : ∀ k, d = some k → k < a.tmps.size) :
   ∃ v, (∀ w' : World, (Instr.indexAt t ux uy).run P w' = .ok v w') ∧ Rel w0 mu c aP (a.put d v) w := by
 cases ht : T.elem t with
 | none => simp [oV, ht, N.val] at hv
 | some p =>
   obtain ⟨q, bytes⟩ := p; obtain ⟨e, i, z, hu, hi, kO, CO, _, _, _, _⟩ := hT.elem t q bytes ht; have rd : ∀ (ys : List (ar q)) (k : IntKind) (j : Int), uy = .int k j → bH w c.ok (.sl q) ux ys → (N.br (decide (0 ≤ j)) (.row q ys[j.toNat]? fun y => .done (aS st d (.one (.lf q y 0)))) .fail).val = some aP →
       ∃ v, (∀ w' : World, (Instr.indexAt t ux uy).run P w' = .ok v w') ∧ Rel w0 mu c aP (a.put d v) w := by
     intro ys k j huy CE hv; obtain ⟨hj, hv⟩ := eX hv; have hj := of_decide_eq_true hj
     cases hr : ys[j.toNat]? with
     | none => simp [hr, N.val] at hv
     | some y =>
       simp only [hr] at hv; change some _ = some aP at hv; obtain rfl := Option.some.inj hv; have bN : j.toNat < ys.length := (List.getElem?_eq_some_iff.1 hr).1; rcases (nA _ _ _ _ _).1 CE with ⟨_, h2⟩ | ⟨ad, cap, h1, h2, h3, h4⟩
       · rw [h2] at bN; simp at bN
       · subst h1 huy; have fe : ys ≠ [] := by intro e; rw [e] at bN; simp at bN
         obtain ⟨g1, g2, g3⟩ := h3 fe; refine ⟨_, (fun w' => Bv hu hi w' k ad ys.length cap j hj (by omega)), h.aS (v := .one (.lf q y 0)) ?_ hd⟩; have Ho : ad = ⟨ad.block, ad.off, none⟩ := by cases ad; simp at g1 ⊢; exact g1
         refine ⟨ad.block, ad.off + j.toNat * q.width, ?_, g2, g3, h4 _ y hr⟩; rw [Ho, Addr.add_mid, kO]; rfl
   cases x with
   | agg _ => cases y <;> simp [oV, ht, N.val] at hv
   | mz _ => cases y <;> simp [oV, ht, N.val] at hv
   | one cx => cases y with
     | agg _ => cases cx <;> simp [oV, ht, N.val] at hv
     | mz _ => cases cx <;> simp [oV, ht, N.val] at hv
     | one cy => cases cx with
       | shr r xs => cases cy with
         | int k j =>
           simp only [oV, ht] at hv
           cases hc : bw q xs with
           | none => simp [hc, N.val] at hv
           | some ys =>
             simp only [hc] at hv; obtain ⟨rfl, rfl⟩ := a7 hc; exact rd _ k j hy hx hv
         | _ => simp [oV, ht, N.val] at hv
       | ref a' j g vw => cases cy with
         | int k n =>
           simp only [oV, ht] at hv
           cases hA : aQ st a' j g with
           | none => simp [hA, N.val] at hv
           | some A =>
             simp only [hA] at hv
             cases hc : bw q A.xs with
             | none => simp [hc, N.val] at hv
             | some ys =>
               simp only [hc] at hv; obtain ⟨e', he⟩ := a7 hc; subst e'; simp only at he; subst he; obtain ⟨sl, CC, Q2, CD⟩ := ba hA; have Hy := h.aK a' j sl A CC CD
               cases ho : A.own with
               | false =>
                 simp only [ho] at hv; have xi : A.md = .sh := by
                   cases hm : A.md with
                   | sh => rfl
                   | dp => rw [hm] at hv; simp [Md.is, N.val] at hv
                   | ho _ => rw [hm] at hv; simp [Md.is, N.val] at hv
                 rw [xi] at hv; simp only [Md.is, Bool.not_true, cond_false] at hv; refine rd _ k n hy ?_ hv; refine yW Hy (hx.2.2 A hA) (fun _ h => h) (fun b hq _ => ?_) (by rw [xi]; rfl); rw [ho, xi] at hq; rcases hq with hq | hq <;> cases hq
               | true =>
                 simp only [ho] at hv; obtain ⟨hn, hv⟩ := eX hv; obtain ⟨bN, hv⟩ := eX hv; have hn := of_decide_eq_true hn; have bN : n.toNat < (vw.app A.xs).length := by simp [Nat.blt] at bN; omega
                 simp only [N.val, Option.some.injEq] at hv; subst hv; have hs := hx.2.2 A hA; have euy : uy = .int k n := hy; subst euy
                 cases hl : c.lc a' j with
                 | nil => unfold je at hs; rw [hl] at hs; omega
                 | «at» b off cap =>
                   unfold je at hs; rw [hl] at hs; obtain ⟨ad, cc, rfl, hcc, yX, Ho⟩ := hs; have hc0 : cc ≠ 0 := by omega
                   refine ⟨_, (fun w' => Bv hu hi w' k ad _ cc n hn (by omega)), h.aS (v := .one (.Hs a' j g _ 0)) ?_ hd⟩; have aew : vw.idx n.toNat = vw.lo + n.toNat := by cases vw <;> simp [View.lo, View.idx]
                   rw [aew]; have HH : A.xs[vw.lo + n.toNat]? = some (vw.app A.xs)[n.toNat] := View.wK vw A.xs (List.getElem?_eq_getElem bN); refine ⟨rfl, hx.2.1, fun A2 JM => ?_⟩; rw [hA] at JM; obtain rfl := Option.some.inj JM; refine ⟨(List.getElem?_eq_some_iff.1 HH).1, b, off, cap, hl, ?_⟩; rw [Ho hc0, Addr.add_mid, kO, Nat.add_mul]; simp only [Nat.add_zero]; rw [Nat.add_assoc]
         | _ => simp [oV, ht, N.val] at hv
       | _ => cases cy <;> simp [oV, ht, N.val] at hv
end Go.TM
namespace Go.TM
open Go Go.RowKit
def HI (c : Cz) (st : St) (w : World) : Option V → Option Value → Prop
 | none, u => u = none
 | some v, u => ∃ x, u = some x ∧ dU c st w v x
def Bd (o : Option Value) (l : Option Nat) : Prop :=
 match l with
 | none => o = none
 | some l => ∃ k, o = some (.int k l)
theorem n9 {c : Cz} {st : St} {w : World} {n : Nat} {lo hi : Option V} {ul uh : Option Value} (hl : HI c st w lo ul) (hh : HI c st w hi uh) {k : Option Nat → Option Nat → N} {aP : St}
   (hv : (nF n lo hi k).val = some aP) : ∃ l h, (k l h).val = some aP ∧ Bd ul l ∧ Bd uh h ∧ l.getD 0 ≤ h.getD n ∧ h.getD n ≤ n := by
 unfold nF at hv; simp only at hv; have hiC : ∀ (l : Option Nat), (hi = none → l.getD 0 ≤ n) → (match hi with
     | none => k l none
     | some (.one (.int _ h)) => .br (decide ((match l with | some l => (l : Int) | none => 0) ≤ h)) (.br (decide (h ≤ n)) (k l (some h.toNat)) .fail) .fail
     | _ => .fail).val = some aP → ∃ h, (k l h).val = some aP ∧ Bd uh h ∧ l.getD 0 ≤ h.getD n ∧ h.getD n ≤ n := by
   intro l Q5 hv
   cases hi with
   | none => exact ⟨none, hv, hh, Q5 rfl, Nat.le_refl _⟩
   | some v => cases v with
     | agg _ => simp [N.val] at hv
     | mz _ => simp [N.val] at hv
     | one x => cases x with
       | int q h =>
         simp only at hv; obtain ⟨h1, hv⟩ := eX hv; obtain ⟨h2, hv⟩ := eX hv; have h1 := of_decide_eq_true h1; have h2 := of_decide_eq_true h2; obtain ⟨x, rfl, hx⟩ := hh; have e : x = .int q h := hx; subst e; have h0 : 0 ≤ h := by cases l <;> simp at h1 <;> omega
         refine ⟨some h.toNat, hv, ⟨q, by rw [Int.toNat_of_nonneg h0]⟩, ?_, by simp; omega⟩
         cases l <;> simp at h1 ⊢; omega
       | _ => simp [N.val] at hv
 cases lo with
 | none =>
   obtain ⟨h, g1, g2, g3, g4⟩ := hiC none (fun _ => Nat.zero_le _) hv; exact ⟨none, h, g1, hl, g2, g3, g4⟩
 | some v => cases v with
   | agg _ => simp [N.val] at hv
   | mz _ => simp [N.val] at hv
   | one x => cases x with
     | int q l =>
       simp only at hv; obtain ⟨h1, hv⟩ := eX hv; have h1 := of_decide_eq_true h1; obtain ⟨x, rfl, hx⟩ := hl; have e : x = .int q l := hx; subst e; have hb : Bd (some (.int q l)) (some l.toNat) := ⟨q, by rw [Int.toNat_of_nonneg h1]⟩
       cases hi with
       | none =>
         simp only at hv; obtain ⟨h2, hv⟩ := eX hv; have h2 := of_decide_eq_true h2; obtain ⟨h, g1, g2, g3, g4⟩ := hiC (some l.toNat) (fun _ => by simp; omega) hv; exact ⟨some l.toNat, h, g1, hb, g2, g3, g4⟩
       | some v =>
         obtain ⟨h, g1, g2, g3, g4⟩ := hiC (some l.toNat) (fun e => by cases e) hv; exact ⟨some l.toNat, h, g1, hb, g2, g3, g4⟩
     | _ => simp [N.val] at hv
theorem CU {P : Program} {w : World} {n cap : Nat} {ul uh : Option Value} {l h : Option Nat} (b : Bool) (hl : Bd ul l) (hh : Bd uh h) (h1 : l.getD 0 ≤ h.getD n) (h2 : h.getD n ≤ n) (hc : n ≤ cap) :
   (Instr.sliceBounds b n cap ul uh none).run P w = .ok (l.getD 0, h.getD n, cap) w := by
 have key : ∀ (q : IntKind) (y m : Nat) (code : BoundsCode), y ≤ m → (Instr.sliceBound (.int q y) m code).run P w = .ok y w := by
   intro q y m code hy; simp [Instr.sliceBound, asIntOf, hy]
 cases l with
 | none =>
   simp only [Bd] at hl; subst hl
   cases h with
   | none =>
     simp only [Bd] at hh; subst hh; simp [Instr.sliceBounds]
   | some h =>
     obtain ⟨q, rfl⟩ := hh; simp at h2; simp [Instr.sliceBounds, key q h cap _ (by omega)]
 | some l =>
   obtain ⟨q, rfl⟩ := hl
   cases h with
   | none =>
     simp only [Bd] at hh; subst hh; simp at h1; simp [Instr.sliceBounds, key q l n _ h1]
   | some h =>
     obtain ⟨q', rfl⟩ := hh; simp at h1 h2; simp [Instr.sliceBounds, key q' h cap _ (by omega), key q l h _ h1]
theorem View.Lm {α : Type} (w : View) (xs : List α) (l h : Option Nat) (h1 : l.getD 0 ≤ h.getD (w.app xs).length) (h2 : h.getD (w.app xs).length ≤ (w.app xs).length) :
   (w.of (w.app xs).length l h).lo = w.lo + l.getD 0 ∧ ((w.of (w.app xs).length l h).app xs).length = h.getD (w.app xs).length - l.getD 0 := by
 cases w with
 | full => cases l <;> cases h <;> simp [View.of, View.lo, View.app] at h1 h2 ⊢ <;> omega
 | «from» a => cases l <;> cases h <;> simp [View.of, View.lo, View.app] at h1 h2 ⊢ <;> omega
 | sub a m => cases l <;> cases h <;> simp [View.of, View.lo, View.app] at h1 h2 ⊢ <;> omega
theorem Mq (n : Nat) (l h : Option Nat) : Jw n l h = View.full.of n l h := by
 cases l <;> cases h <;> simp [Jw, View.of, View.lo]
theorem oG {P : Program} {t e : TypeId} {i : TypeInfo} (hu : P.underlying t = some (.slice e)) (hi : P.info? e = some i) {w : World} {a : Option Addr} {n cap : Nat} {ul uh : Option Value} {l h : Option Nat}
   (hl : Bd ul l) (hh : Bd uh h) (h1 : l.getD 0 ≤ h.getD n) (h2 : h.getD n ≤ n) (hc : n ≤ cap) :
   (Instr.sliceAt t (.slice a n cap) ul uh none).run P w = .ok (.slice (if cap = l.getD 0 then a else a.map (·.add (l.getD 0 * i.size))) (h.getD n - l.getD 0) (cap - l.getD 0)) w := by
 have hb := CU (P := P) (w := w) true hl hh h1 h2 hc; simp [Instr.sliceAt, Instr.slice, run_underlying hu, sizeOf, typeInfo, hi, hb]
theorem Mr {P : Program} {T : ki} (hT : fI P T) {w0 : World} {mu : Mu} {c : Cz} {st : St} {a : Act} {w : World} (h : Rel w0 mu c st a w)
   {d : Option Nat} {t : Nat} {x : V} {ux : Value} {lo hi : Option V} {ul uh : Option Value} (hx : dU c st w x ux) (hl : HI c st w lo ul) (hh : HI c st w hi uh) {aP : St}
   (hv : (tk T st d t x lo hi).val = some aP) (hd : ∀ k, d = some k → k < a.tmps.size) :
   ∃ v, (∀ w' : World, (Instr.sliceAt t ux ul uh none).run P w' = .ok v w') ∧ Rel w0 mu c aP (a.put d v) w := by
 cases x with
 | agg _ => simp [tk, N.val] at hv
 | mz _ => simp [tk, N.val] at hv
 | one cx => cases cx with
   | str s =>
     simp only [tk] at hv
     cases hk : T.kind t with
     | none => simp [hk, N.val] at hv
     | some y => cases y with
       | str =>
         simp only [hk] at hv; obtain ⟨l, q, hv, g1, g2, g3, g4⟩ := n9 hl hh hv; simp only [N.val, Option.some.injEq] at hv; subst hv; have e : ux = .string s := hx; subst e; have hb := fun w' : World => CU (P := P) (w := w') false g1 g2 g3 g4 (Nat.le_refl _)
         refine ⟨.string (s.extract (l.getD 0) (q.getD s.size)), (fun w' => by simp [Instr.sliceAt, Instr.slice, run_underlying (Ll hT hk), hb w']), ?_⟩; exact h.aS (v := .one (.str _)) rfl hd
       | _ => simp [hk, N.val] at hv
   | dD =>
     simp only [tk] at hv
     cases hk : T.elem t with
     | none => simp [hk, N.val] at hv
     | some p =>
       obtain ⟨r, b⟩ := p; simp only [hk] at hv; obtain ⟨e, i, z, hu, hi, _⟩ := hT.elem t r b hk; obtain ⟨l, q, hv, g1, g2, g3, g4⟩ := n9 hl hh hv; simp only [N.val, Option.some.injEq] at hv; subst hv; have eu : ux = .slice none 0 0 := hx; subst eu; have hr := fun w' : World => oG (P := P) (w := w') (a := none) hu hi g1 g2 g3 g4 (Nat.le_refl 0)
       have e1 : l.getD 0 = 0 := by omega
       have e2 : q.getD 0 = 0 := by omega
       simp only [e1, e2] at hr; exact ⟨_, hr, h.aS (v := .one .dD) rfl hd⟩
   | shr r xs =>
     simp only [tk] at hv
     cases hk : T.elem t with
     | none => simp [hk, N.val] at hv
     | some p =>
       obtain ⟨r', b⟩ := p; simp only [hk] at hv
       cases hc : bw r' xs with
       | none => simp [hc, N.val] at hv
       | some ys =>
         simp only [hc] at hv; obtain ⟨rfl, hq⟩ := a7 hc
         replace hq : xs = ys := hq.symm
         subst hq; obtain ⟨e, i, z, hu, hi, kO, CO, _⟩ := hT.elem t r b hk; obtain ⟨l, q, hv, g1, g2, g3, g4⟩ := n9 hl hh hv; simp only [N.val, Option.some.injEq] at hv; subst hv; have rJ := View.Lm .full xs l q g3 g4; rw [Mq]; rcases (nA _ _ _ _ _).1 hx with ⟨rfl, rfl⟩ | ⟨ad, cap, rfl, h2, h3, h4⟩
         · have hr := fun w' : World => oG (P := P) (w := w') (a := none) hu hi g1 g2 g3 g4 (Nat.le_refl 0)
           simp at g3 g4; have e1 : l.getD 0 = 0 := by omega
           have e2 : q.getD 0 = 0 := by omega
           simp only [e1, show q.getD ([] : List (ar r)).length = 0 from e2] at hr; refine ⟨_, hr, h.aS (v := .one (.shr r _)) ?_ hd⟩; refine (nA _ _ _ _ _).2 (.inl ⟨rfl, ?_⟩); have := rJ.2; simp [View.app] at this ⊢
           cases hw : View.full.of 0 l q <;> simp
         · have hr := fun w' : World => oG (P := P) (w := w') (a := some ad) hu hi g1 g2 g3 g4 h2
           refine ⟨_, hr, h.aS (v := .one (.shr r _)) ?_ hd⟩; have hlen : ((View.full.of xs.length l q).app xs).length = q.getD xs.length - l.getD 0 := rJ.2; refine (nA _ _ _ _ _).2 (.inr ⟨if cap = l.getD 0 then ad else ad.add (l.getD 0 * i.size), cap - l.getD 0, ?_, by rw [hlen]; omega, fun fe => ?_, fun j y hy => ?_⟩)
           · rw [hlen]
             congr 1
             by_cases e : cap = l.getD 0 <;> simp [e]
           · have hp : 0 < q.getD xs.length - l.getD 0 := by rw [← hlen]; exact List.length_pos_iff.2 fe
             have UD : xs ≠ [] := by intro e; subst e; simp at g4 hp; omega
             obtain ⟨k1, k2, k3⟩ := h3 UD; have Ho : ad = ⟨ad.block, ad.off, none⟩ := by cases ad; simp at k1 ⊢; exact k1
             rw [if_neg (by omega), Ho, Addr.add_mid]; exact ⟨rfl, k2, k3⟩
           · have hj : j < q.getD xs.length - l.getD 0 := by rw [← hlen]; exact (List.getElem?_eq_some_iff.1 hy).1
             have UD : xs ≠ [] := by intro e; subst e; simp at g4 hj; omega
             obtain ⟨k1, k2, k3⟩ := h3 UD; have Ho : ad = ⟨ad.block, ad.off, none⟩ := by cases ad; simp at k1 ⊢; exact k1
             rw [if_neg (by omega), Ho, Addr.add_mid]; have HH := View.wK (View.full.of xs.length l q) xs hy; rw [show (View.full.of xs.length l q).lo = l.getD 0 by have h9 : (View.full.of xs.length l q).lo = View.full.lo + l.getD 0 := rJ.1; rw [h9]; simp [View.lo]] at HH; have := h4 _ y HH; rw [Nat.add_mul] at this; rw [kO]; simp only; rw [Nat.add_assoc]; exact this
   | ref a' j g vw =>
     simp only [tk] at hv
     cases hk : T.elem t with
     | none => simp [hk, N.val] at hv
     | some p =>
       obtain ⟨r', b⟩ := p; simp only [hk] at hv
       cases hA : aQ st a' j g with
       | none => simp [hA, N.val] at hv
       | some A =>
         simp only [hA] at hv
         cases hc : bw r' A.xs with
         | none => simp [hc, N.val] at hv
         | some ys =>
           simp only [hc] at hv; obtain ⟨e', he⟩ := a7 hc; subst e'; simp only at he; subst he; obtain ⟨e, i, z, hu, hi, kO, CO, _⟩ := hT.elem t A.r b hk; obtain ⟨l, q, hv, g1, g2, g3, g4⟩ := n9 hl hh hv; simp only [N.val, Option.some.injEq] at hv; subst hv; have rJ := View.Lm vw A.xs l q g3 g4; have hs := hx.2.2 A hA
           cases gV : c.lc a' j with
           | nil =>
             unfold je at hs; rw [gV] at hs; obtain ⟨rfl, hn⟩ := hs; rw [hn] at g3 g4; have hr := fun w' : World => oG (P := P) (w := w') (a := none) hu hi g1 g2 g3 g4 (Nat.le_refl 0)
             have e1 : l.getD 0 = 0 := by omega
             have e2 : q.getD 0 = 0 := by omega
             simp only [e1, e2] at hr; refine ⟨_, hr, h.aS (v := .one (.ref a' j g _)) ⟨rfl, hx.2.1, fun A2 JM => ?_⟩ hd⟩; rw [hA] at JM; obtain rfl := Option.some.inj JM; rw [gV]; refine ⟨by simp, ?_⟩; rw [rJ.2, hn]; omega
           | «at» bb off cap =>
             unfold je at hs; rw [gV] at hs; obtain ⟨ad, cc, rfl, hcc, yX, Ho⟩ := hs; have hr := fun w' : World => oG (P := P) (w := w') (a := some ad) hu hi g1 g2 g3 g4 hcc
             refine ⟨_, hr, h.aS (v := .one (.ref a' j g _)) ⟨?_, hx.2.1, fun A2 JM => ?_⟩ hd⟩
             · by_cases e : cc = l.getD 0 <;> simp [e, Value.oneCell']
             · rw [hA] at JM; obtain rfl := Option.some.inj JM; rw [gV]; refine ⟨if cc = l.getD 0 then ad else ad.add (l.getD 0 * i.size), cc - l.getD 0, ?_, by rw [rJ.2]; omega, by rw [rJ.1]; omega, fun fe => ?_⟩
               · rw [rJ.2]
                 congr 1
                 by_cases e : cc = l.getD 0 <;> simp [e]
               · rw [if_neg (by omega), Ho (by omega), Addr.add_mid, rJ.1, kO, Nat.add_mul, Nat.add_assoc]
   | _ => simp [tk, N.val] at hv
end Go.TM
namespace Go.TM
open Go Go.RowKit
theorem Fw.grow {w0 : World} {mu : Mu} {c : Cz} {st : St} {a : Act} {w : World} (h : Rel w0 mu c st a w) (o : Obj) : Fw c st w c st (w.alloc o) where
 stays := vB w _ _ _ fun _ _ h => h
 refs a' j g A' _ dQ := ⟨A', dQ, rfl, rfl, rfl, fun _ => ⟨rfl, fun b oo cap gV => heap_alloc_old w _ b ((h.sH (g := g) dQ).lt gV)⟩⟩
 B8 _ _ mA _ hb := ⟨⟨mA, hb⟩, rfl⟩
 gA _ := Nat.le_refl _
 gB _ := Nat.le_refl _
 gE _ := Nat.le_refl _
theorem Rel.grow {w0 : World} {mu : Mu} {c : Cz} {st : St} {a : Act} {w : World} (h : Rel w0 mu c st a w) (o : Obj) : Rel w0 mu c st a (w.alloc o) where
 eI t := (Fw.grow h o).mr (h.eI t)
 boxes s sl cs hs hb := by
   have Ul := h.boxes s sl cs hs hb; exact Ul.go (Fw.grow h o) rfl rfl (heap_alloc_old w _ _ (h.nH Ul.1))
 aK s j sl A hs hA := (h.aK s j sl A hs hA).go (Fw.grow h o).stays rfl fun b hb => ⟨heap_alloc_old w _ b (h.nH hb), rfl⟩
 owned b l hb := ⟨Nat.lt_of_lt_of_le (h.owned b l hb).1 (by simp), (h.owned b l hb).2⟩
 free := h.free
 kept := ⟨h.kept.1, h.kept.2.1, h.kept.2.2.1, Nat.le_trans h.kept.2.2.2 (by simp)⟩
 old k hk hm := by
   rw [heap_alloc_old w _ k (Nat.lt_of_lt_of_le hk h.kept.2.2.2)]; exact h.old k hk hm
 dJ p hp := (Fw.grow h o).dJ (h.dJ p hp)
 plain := h.plain
theorem eH.ZD {c : Cz} {st : St} {w : World} {x : CV} {cs : List CV} {vs : List Value} (h : eH c st w (x :: cs) vs) : ∃ v l, vs = v :: l ∧ jw c st w x v ∧ eH c st w cs l := by
 obtain ⟨h1, h2⟩ := h
 cases vs with
 | nil => simp at h1
 | cons v l => exact ⟨v, l, rfl, h2 0 x v rfl rfl, by simpa using h1, fun i y u hy hu => h2 (i + 1) y u (by simpa using hy) (by simpa using hu)⟩
theorem RD {w : World} {ok : Nat → Prop} {b off : Nat} (x : ar .nil) : cn w ok .nil b off x := by unfold cn; trivial
theorem zl {w : World} {ok : Nat → Prop} {t : Ty} {r : RT} {b off : Nat} {x : ar (.cons t r)} : cn w ok (.cons t r) b off x ↔ (∃ v, w.cell? ⟨b, off, none⟩ = some v ∧ bH w ok t v x.1) ∧ cn w ok r b (off + 1) x.2 := by
 constructor
 · intro h; unfold cn at h; exact h
 · intro h; unfold cn; exact h
theorem mg {c : Cz} {st : St} {w w' : World} {ok : Nat → Prop} (hs : iW w w' c.ok ok) {b : Nat} : (cs : List CV) → {r : RT} → {x : ar r} → dH cs = some ⟨r, x⟩ → (vs : List Value) → (off : Nat) → eH c st w cs vs → (∀ (i : Nat) v, vs[i]? = some v → w'.cell? ⟨b, off + i, none⟩ = some v) → cn w' ok r b off x
 | [], r, x, h, vs, off, _, _ => by
   unfold dH at h
   cases h
   exact RD _
 | cx :: cs, r, x, h, vs, off, hl, hc => by
   obtain ⟨v, l, rfl, hx, xr⟩ := hl.ZD; have h0 := hc 0 v rfl; rw [Nat.add_zero] at h0; have eQ : ∀ (i : Nat) u, l[i]? = some u → w'.cell? ⟨b, off + 1 + i, none⟩ = some u := fun i u hu => by
     have := hc (i + 1) u hu
     rwa [show off + (i + 1) = off + 1 + i by omega] at this
   cases cx with
   | int k n =>
     unfold dH at h
     cases hq : dH cs with
     | none => rw [hq] at h; cases h
     | some p =>
       obtain ⟨r0, x0⟩ := p; rw [hq] at h
       cases h
       have ih := mg hs cs hq l (off + 1) xr eQ; exact zl.2 ⟨⟨v, h0, qD.2 hx⟩, ih⟩
   | bool n =>
     unfold dH at h
     cases hq : dH cs with
     | none => rw [hq] at h; cases h
     | some p =>
       obtain ⟨r0, x0⟩ := p; rw [hq] at h
       cases h
       have ih := mg hs cs hq l (off + 1) xr eQ; exact zl.2 ⟨⟨v, h0, rN.2 hx⟩, ih⟩
   | str n =>
     unfold dH at h
     cases hq : dH cs with
     | none => rw [hq] at h; cases h
     | some p =>
       obtain ⟨r0, x0⟩ := p; rw [hq] at h
       cases h
       have ih := mg hs cs hq l (off + 1) xr eQ; exact zl.2 ⟨⟨v, h0, vv.2 hx⟩, ih⟩
   | shr q xs =>
     unfold dH at h
     cases hq : dH cs with
     | none => rw [hq] at h; cases h
     | some p =>
       obtain ⟨r0, x0⟩ := p; rw [hq] at h
       cases h
       have ih := mg hs cs hq l (off + 1) xr eQ; exact zl.2 ⟨⟨v, h0, bH.stays hs _ _ _ hx⟩, ih⟩
   | _ => simp [dH] at h
def Cz.uV (c : Cz) (s : Nat) : Cz :=
 { c with own := fun k => match c.own k with | some (.box t) => if t = s then none else some (.box t) | l => l }
theorem Cz.OO {c : Cz} {s b : Nat} (h : c.ok b) : (c.uV s).ok b := by
 unfold Cz.ok Cz.uV at *; simp [h]
theorem Cz.Fc {c : Cz} {s b : Nat} (h : c.own b = some (.box s)) : (c.uV s).ok b := by
 unfold Cz.ok Cz.uV; simp [h]
theorem Cz.CW {c : Cz} {s b : Nat} {l : Lb} (h : c.own b = some l) (fe : l ≠ .box s) : (c.uV s).own b = some l := by
 unfold Cz.uV; simp only [h]
 cases l with
 | box t =>
   simp only; rw [if_neg]
   rintro rfl
   exact fe rfl
 | _ => rfl
theorem Cz.JN {c : Cz} {s b : Nat} {l : Lb} (h : (c.uV s).own b = some l) : c.own b = some l := by
 unfold Cz.uV at h; simp only at h
 cases hc : c.own b with
 | none => simp [hc] at h
 | some l' => cases l' with
   | box t =>
     simp only [hc] at h
     by_cases e : t = s
     · simp [e] at h
     · rw [if_neg e] at h; exact h
   | _ => simp [hc] at h; rw [h]
theorem rR (st : St) (b s : Nat) : nth (fj st b) s = if s = b then (nth st s).map (fun x => { x with box := none }) else nth st s := by
 unfold fj; rw [dn]
theorem kR (st : St) (b s : Nat) : bK (fj st b) s = bK st s ∧ cQ (fj st b) s = cQ st s ∧ fM (fj st b) s = fM st s ∧ lT (fj st b) s = lT st s ∧ ∀ j g, aQ (fj st b) s j g = aQ st s j g := by
 unfold bK cQ fM lT aQ; rw [rR]
 by_cases e : s = b
 · rw [if_pos e]
   cases nth st s <;> simp
 · rw [if_neg e]; simp
theorem GA {st : St} {b s g : Nat} {cs : List CV} (h : di (fj st b) s g = some cs) : s ≠ b ∧ di st s g = some cs := by
 unfold di at h ⊢; rw [rR] at h
 by_cases e : s = b
 · rw [if_pos e] at h
   cases hx : nth st s with
   | none => rw [hx] at h; cases h
   | some x =>
     rw [hx] at h; simp only [Option.map_some] at h
     cases hb : Nat.beq x.bg g <;> rw [hb] at h <;> cases h
 · rw [if_neg e] at h; exact ⟨e, h⟩
theorem Fw.fj (c : Cz) (st : St) (w : World) (s : Nat) : Fw c st w (c.uV s) (fj st s) w where
 stays := ⟨Nat.le_refl _, fun _ _ _ => rfl, fun _ _ h => Cz.OO h⟩
 refs a' j' g A' _ dQ := ⟨A', by rwa [(kR st s a').2.2.2.2] at dQ, rfl, rfl, rfl, fun _ => ⟨rfl, fun _ _ _ _ => rfl⟩⟩
 B8 b g mA _ h := ⟨⟨mA, (GA h).2⟩, rfl⟩
 gA b := by rw [(kR st s b).2.1]; exact Nat.le_refl _
 gB b := by rw [(kR st s b).2.2.1]; exact Nat.le_refl _
 gE b := by rw [(kR st s b).2.2.2.1]; exact Nat.le_refl _
theorem Rel.fj {w0 : World} {mu : Mu} {c : Cz} {st : St} {a : Act} {w : World} (h : Rel w0 mu c st a w) (s : Nat) : Rel w0 mu (c.uV s) (fj st s) a w where
 eI t := by rw [(kR st s t).1]; exact (Fw.fj c st w s).mr (h.eI t)
 boxes b sl cs hs hb := by
   rw [rR] at hs
   by_cases e : b = s
   · rw [if_pos e] at hs
     cases hx : nth st b with
     | none => rw [hx] at hs; cases hs
     | some x => rw [hx] at hs; simp at hs; subst hs; cases hb
   · rw [if_neg e] at hs; have h0 := h.boxes b sl cs hs hb; exact h0.go (Fw.fj c st w s) rfl (by rw [h0.1]; exact Cz.CW h0.1 (by intro e'; injection e' with e'; exact e e')) rfl
 aK b i sl A hs hb := by
   rw [rR] at hs; have h0 : bI c w b i A := by
     by_cases e : b = s
     · rw [if_pos e] at hs
       cases hx : nth st b with
       | none => rw [hx] at hs; cases hs
       | some x => rw [hx] at hs; simp at hs; subst hs; exact h.aK b i x A hx hb
     · rw [if_neg e] at hs; exact h.aK b i sl A hs hb
   exact h0.go (Fw.fj c st w s).stays rfl fun k h1 => ⟨rfl, by rw [h1]; exact Cz.CW h1 (by intro e; cases e)⟩
 owned b l hb := h.owned b l (Cz.JN hb)
 free b hb h1 := by
   cases hc : c.own b with
   | none => exact h.free b hb hc
   | some l =>
     rcases (h.owned b l hc).2 with h2 | h2 | h2
     · subst h2; unfold Cz.uV at h1; simp [hc] at h1
     · omega
     · exact .inl h2
 kept := h.kept
 old := h.old
 dJ p hp := (Fw.fj c st w s).dJ (h.dJ p hp)
 plain := h.plain
theorem HJ {w : World} {b : Nat} {vs : Array Value} {ty : TypeId} (h : w.heap[b]? = some (.cells vs ty (0, 0))) {i : Nat} {v : Value} (hv : vs.toList[i]? = some v) : w.cell? ⟨b, i, none⟩ = some v := by
 unfold World.cell?; simp [h]; simpa using hv
theorem Ao (st : St) (b g : Nat) (r : RT) (x : ar r) : (s : Nat) → nth (mD st b g r x) s = (nth st s).map fun z => { z with v := rnV b g r x z.v } := by
 unfold mD
 induction st with
 | nil => intro s; rfl
 | cons y st ih => intro s; cases s with
   | zero => rfl
   | succ s => exact ih s
theorem nJ (st : St) (b g : Nat) (r : RT) (x : ar r) (s : Nat) : bK (mD st b g r x) s = rnV b g r x (bK st s) ∧ cQ (mD st b g r x) s = cQ st s ∧ fM (mD st b g r x) s = fM st s ∧ lT (mD st b g r x) s = lT st s ∧ (∀ j g', aQ (mD st b g r x) s j g' = aQ st s j g') ∧ ∀ g', di (mD st b g r x) s g' = di st s g' := by
 unfold bK cQ fM lT aQ di; rw [Ao]
 cases nth st s with
 | none => exact ⟨rfl, rfl, rfl, rfl, fun _ _ => rfl, fun _ => rfl⟩
 | some z => exact ⟨rfl, rfl, rfl, rfl, fun _ _ => rfl, fun _ => rfl⟩
theorem Fw.mD (c : Cz) (st : St) (w : World) (b g : Nat) (r : RT) (x : ar r) : Fw c st w c (mD st b g r x) w where
 stays := ⟨Nat.le_refl _, fun _ _ _ => rfl, fun _ _ h => h⟩
 refs a' j' g' A' _ dQ := ⟨A', by rwa [(nJ st b g r x a').2.2.2.2.1] at dQ, rfl, rfl, rfl, fun _ => ⟨rfl, fun _ _ _ _ => rfl⟩⟩
 B8 b' g' mA _ h := ⟨⟨mA, by rwa [(nJ st b g r x b').2.2.2.2.2] at h⟩, rfl⟩
 gA s := by rw [(nJ st b g r x s).2.1]; exact Nat.le_refl _
 gB s := by rw [(nJ st b g r x s).2.2.1]; exact Nat.le_refl _
 gE s := by rw [(nJ st b g r x s).2.2.2.1]; exact Nat.le_refl _
theorem Rel.mD {w0 : World} {mu : Mu} {c : Cz} {st : St} {a : Act} {w : World} (h : Rel w0 mu c st a w) {b g : Nat} {r : RT} {x : ar r} (hp : ∀ t off, bK st t = .one (.ptr b g off) → jw c st w (.lf r x off) (a.eval (.tmp t))) : Rel w0 mu c (mD st b g r x) a w where
 eI t := by
   rw [(nJ st b g r x t).1]; have h0 := (Fw.mD c st w b g r x).mr (h.eI t)
   cases hv : bK st t with
   | one cv => cases cv with
     | ptr b' g' off =>
       rw [hv] at h0; show dU c (TM.mD st b g r x) w (bif Nat.beq b' b && Nat.beq g' g then .one (.lf r x off) else .one (.ptr b' g' off)) (a.eval (.tmp t))
       cases hb : Nat.beq b' b && Nat.beq g' g with
       | false => exact h0
       | true =>
         rw [Bool.and_eq_true] at hb; have e1 := Nat.eq_of_beq_eq_true hb.1; have e2 := Nat.eq_of_beq_eq_true hb.2; subst e1 e2; exact hp t off hv
     | _ => rw [hv] at h0; exact h0
   | agg _ => rw [hv] at h0; exact h0
   | mz _ => rw [hv] at h0; exact h0
 boxes s sl cs hs hb := by
   rw [Ao] at hs; obtain ⟨z, hz, rfl⟩ := Option.map_eq_some_iff.1 hs; have h0 := h.boxes s z cs hz hb; exact h0.go (Fw.mD c st w b g r x) rfl (by rw [h0.1]) rfl
 aK s j sl A hs hA := by
   rw [Ao] at hs; obtain ⟨z, hz, rfl⟩ := Option.map_eq_some_iff.1 hs; exact h.aK s j z A hz hA
 owned := h.owned
 free := h.free
 kept := h.kept
 old := h.old
 plain := h.plain
 dJ p hp := (Fw.mD c st w b g r x).dJ (h.dJ p hp)
theorem RE {w0 : World} {mu : Mu} {c : Cz} {st aP : St} {a : Act} {w : World} (h : Rel w0 mu c st a w) {t : Nat} {r : RT} {ys : List (ar r)} (hc : Rr st t = some (aP, ⟨r, ys⟩)) :
   ∃ c', Rel w0 mu c' aP a w ∧ Fw c st w c' aP w ∧ E4 w c'.ok r (a.eval (.tmp t)) ys := by
 have hx := h.eI t; unfold Rr at hc
 split at hc
 · rename_i r' x' off e; obtain ⟨h1, hc⟩ := aH hc; have h1 := Nat.eq_of_beq_eq_true h1; subst h1
   cases hc
   rw [e] at hx; obtain ⟨b, o, e1, e2, e3, e4⟩ := hx; refine ⟨c, h, Fw.refl c st w, b, o, e1, e2, e3, fun y hy => ?_⟩; simp at hy; subst hy; exact e4
 · rename_i r' xs off e; obtain ⟨h1, hc⟩ := aH hc; have h1 := Nat.eq_of_beq_eq_true h1; subst h1
   cases hc
   rw [e] at hx; obtain ⟨b, o, e1, e2, e3, e4⟩ := hx; exact ⟨c, h, Fw.refl c st w, b, o, e1, e2, e3, e4⟩
 · rename_i b g off e
   cases hb : di st b g with
   | none => rw [hb] at hc; cases hc
   | some cs =>
     rw [hb] at hc; simp only at hc; obtain ⟨h1, hc⟩ := aH hc; have h1 := Nat.eq_of_beq_eq_true h1; subst h1
     cases hp : dH cs with
     | none => rw [hp] at hc; cases hc
     | some p =>
       obtain ⟨r0, x0⟩ := p; rw [hp] at hc
       cases hc
       rw [e] at hx; have hu := hx.2.2 cs hb; obtain ⟨sl, CC, Q2, CD⟩ := gU hb; obtain ⟨ho, vs, ty, hh, hl⟩ := h.boxes b sl cs CC CD; have CE : cn w (c.uV b).ok r (c.bx b) 0 x0 := by
         refine mg (Fw.fj c st w b).stays cs hp vs.toList 0 hl fun i v hv => ?_
         rw [Nat.zero_add]; exact HJ hh hv
       refine ⟨_, (h.fj b).mD (fun t' Zq hv => ?_), (Fw.fj c st w b).trans (Fw.mD _ _ w _ _ _ _), c.bx b, 0, hu, h.nH ho, Cz.Fc ho, fun y hy => ?_⟩
       · rw [(kR st b t').1] at hv; have h2 := h.eI t'; rw [hv] at h2; have hu2 := h2.2.2 cs hb; exact ⟨c.bx b, 0, by rw [Nat.zero_add]; exact hu2, h.nH ho, Cz.Fc ho, CE⟩
       · simp at hy; subst hy; exact CE
 · cases hc
theorem HK {w0 : World} {mu : Mu} {a : Act} {w : World} : (l : List Operand) → {c : Cz} → {st aP : St} → Rel w0 mu c st a w → {rs : RT} → {x : ar rs} → xq st l = some (aP, ⟨rs, x⟩) →
   ∃ c', Rel w0 mu c' aP a w ∧ Fw c st w c' aP w ∧ tw w c'.ok rs (l.map a.eval) x
 | [], c, st, aP, h, rs, x, hc => by
   unfold xq at hc
   cases hc
   exact ⟨c, h, Fw.refl c st w, rfl⟩
 | .tmp t :: l, c, st, aP, h, rs, x, hc => by
   unfold xq at hc
   cases h1 : Rr st t with
   | none => rw [h1] at hc; cases hc
   | some p =>
     obtain ⟨Ak, r, y⟩ := p; rw [h1] at hc; simp only at hc
     cases h2 : xq Ak l with
     | none => rw [h2] at hc; cases hc
     | some p =>
       obtain ⟨gD, rs0, ys⟩ := p; rw [h2] at hc
       cases hc
       obtain ⟨c1, k1, k2, k3⟩ := RE h h1; obtain ⟨c2, g1, g2, g3⟩ := HK l k1 h2; exact ⟨c2, g1, k2.trans g2, _, _, rfl, k3.stays g2.stays, g3⟩
 | .const _ :: _, _, _, _, _, _, _, hc => by simp [xq] at hc
 | .func _ :: _, _, _, _, _, _, _, hc => by simp [xq] at hc
 | .global _ :: _, _, _, _, _, _, _, hc => by simp [xq] at hc
theorem HL {c : Cz} {st : St} {w : World} : (rs : RT) → (vs : List Value) → (x : ar rs) → tw w c.ok rs vs x → (uT rs x).length = vs.length ∧ ∀ (k : Nat) v u, (uT rs x)[k]? = some v → vs[k]? = some u → dU c st w v u
 | .nil, vs, x, h => by
   subst h; exact ⟨rfl, fun k v u hv => by simp [uT] at hv⟩
 | .cons (.sl r) rs, vs, x, h => by
   obtain ⟨v0, l, rfl, ⟨b, o, e1, e2, e3, e4⟩, h2⟩ := h; obtain ⟨g1, g2⟩ := HL (c := c) (st := st) rs l x.2 h2; refine ⟨by simp [uT, g1], fun k v u hv hu => ?_⟩
   cases k with
   | zero =>
     simp only [uT, List.getElem?_cons_zero, Option.some.injEq] at hv hu; subst hv hu; exact ⟨b, o, by rw [Nat.add_zero]; exact e1, e2, e3, e4⟩
   | succ k => exact g2 k v u (by simpa [uT] using hv) (by simpa using hu)
 | .cons (.int _) _, _, _, h => h.elim
 | .cons .bool _, _, _, h => h.elim
 | .cons .str _, _, _, h => h.elim
end Go.TM
namespace Go.TM
open Go Go.RowKit
def u9 (P : Program) (T : ki) : Prop :=
 ∀ t, T.eq t = true → ∀ (c : Cz) (st : St) (w : World) (l m : List CV) (us vs : Array Value) (b : Bool) (op : BinOp) (ox oy : Operand), T.fits t l = true → mC l m = some b →
   eH c st w l us.toList → eH c st w m vs.toList → ∀ w' : World, (eqGuard op t ox oy (.agg us) (.agg vs)).run P w' = .ok () w' ∧ (Op.equal t (.agg us) (.agg vs)).run P w' = .ok b w'
def vH (P : Program) (w0 : World) (mu : Mu) (aP : St) (o : Oper) (a : Act) (w : World) (kp : Bool) : Prop :=
 ∀ Q : Exit → Act → World → Prop, o.wp P a w (fun a' w' => (∃ c', Rel w0 mu c' aP a' w' ∧ a'.tmps.size = a.tmps.size) ∧ (kp = true → iJ w w')) Q
theorem qH (a : Act) (d : Option Tmp) (v : Value) : (a.put d v).tmps.size = a.tmps.size := by
 cases d <;> simp [Act.put]
theorem tG {P : Program} {w0 : World} {mu : Mu} {c' : Cz} {aP : St} {o : Oper} {a : Act} {w w' : World} {v : Value} {kp : Bool} (hr : (execOp a.eval o).run P w = .ok (.value v) w') (h : Rel w0 mu c' aP (a.put o.dst v) w') (hk : kp = true → iJ w w') :
   vH P w0 mu aP o a w kp := by
 intro Q; unfold Oper.wp; rw [hr]; exact ⟨⟨c', h, qH a _ _⟩, hk⟩
theorem qI {P : Program} {s : Sem Value} {w w' : World} {v : Value} (h : s.run P w = .ok v w') : (do pure (Next.value (← s)) : Sem Next).run P w = .ok (.value v) w' := by
 simp [Sem.run_bind, h]
theorem HM {w0 : World} {mu : Mu} {c : Cz} {st : St} {a : Act} {w : World} (h : Rel w0 mu c st a w) (parts : Array (Nat × Operand)) :
   oF c st w (parts.toList.map fun p => (p.1, lz st p.2)) (parts.map fun (i, x) => (i, a.eval x)).toList := by
 refine ⟨by simp, fun i p u hp hu => ?_⟩; simp only [List.getElem?_map, Array.toList_map] at hp hu
 cases hq : parts.toList[i]? with
 | none => simp [hq] at hp
 | some q =>
   simp only [hq, Option.map_some, Option.some.injEq] at hp hu; subst hp hu; exact ⟨rfl, bh h q.2⟩
theorem Tf {w0 : World} {mu : Mu} {c : Cz} {st : St} {a : Act} {w : World} (h : Rel w0 mu c st a w) (x : Option Operand) : HI c st w (x.map (lz st)) (x.map a.eval) := by
 cases x with
 | none => rfl
 | some x => exact ⟨_, rfl, bh h x⟩
theorem Ms {P : Program} {w : World} {ok : Nat → Prop} {u : Value} {ys : List (ar (.cons (.int .u8) .nil))} (h : YJ w ok (.cons (.int .u8) .nil) u ys) : (Conv.bytesToString u).run P w = .ok (.string (bytesOf ys)) w := by
 rcases h with ⟨rfl, rfl⟩ | ⟨a, cap, rfl, hs, hr⟩
 · rfl
 · have key := run_bytesToString (P := P) w a ys.length cap (ys.map Ld) (by
     have h1 : ((ys.map Ld).map (Value.int .u8)).length = ys.length := by simp
     have h2 := run_loadCells_list (P := P) (w := w) a ((ys.map Ld).map (Value.int .u8)) (by
       intro j v hv; rw [List.map_map, List.getElem?_map] at hv
       cases hy : ys[j]? with
       | none => rw [hy] at hv; cases hv
       | some y =>
         rw [hy] at hv; simp only [Option.map_some, Option.some.injEq, Function.comp] at hv; subst hv; have h3 := hr j y hy; unfold cn at h3; obtain ⟨⟨v, h4, h5⟩, _⟩ := h3; have h5 := qD.1 h5; subst h5; have fe : ys ≠ [] := by intro e; rw [e] at hy; simp at hy
         have rJ := hs fe; have e : a.add j = ⟨a.block, a.off + j * (RT.cons (.int .u8) .nil).width, none⟩ := by
           simp only [RT.width, Nat.zero_add, Nat.mul_one]; unfold Addr.add
           split
           · rename_i h0; subst h0; obtain ⟨b, o, s⟩ := a; simp at rJ; subst rJ; rfl
           · rfl
         rw [e]; exact h4)
     rw [h1] at h2; exact h2)
   rw [key]
   congr 2
   unfold bytesOf; rw [List.foldl_map]
def Op.JO : Op → Bool
 | .call { callee := .value (.func _), .. } => true
 | .call { callee := .value (.tmp _), .. } => true
 | _ => false
theorem HN {c : Cz} {st : St} {w : World} {x : V} {v : Value} (h : yV c st w x v) : dU c st w x v := by
 cases x with
 | one _ => exact h
 | agg _ => exact h
 | mz _ => exact h.elim
theorem Ln {P : Program} {T : ki} (hT : fI P T) (hE : u9 P T) {S : ju} {w0 : World} {mu : Mu} {c : Cz} {st : St} {a : Act} {w : World} (h : Rel w0 mu c st a w) {o : Oper} (hk : kindOk S st o .any = true)
   {aP : St} (hv : (Jk T S st o).val = some aP) (hd : ∀ k, o.dst = some k → k < a.tmps.size) : ∃ v, (∀ w' : World, (execOp a.eval o).run P w' = .ok (.value v) w') ∧ Rel w0 mu c aP (a.put o.dst v) w := by
 have one : ∀ (v : Value), Rel w0 mu c aP (a.put o.dst v) w → (∀ w' : World, (execOp a.eval o).run P w' = .ok (.value v) w') → ∃ v, (∀ w' : World, (execOp a.eval o).run P w' = .ok (.value v) w') ∧ Rel w0 mu c aP (a.put o.dst v) w :=
   fun v h1 h2 => ⟨v, h2, h1⟩
 unfold Jk at hv; unfold kindOk at hk
 cases ho : o.op with
 | move x =>
   simp only [ho, N.val, Option.some.injEq] at hv; subst hv; exact one _ (h.aS (bh h x) hd) (fun w' => by simp [execOp, ho])
 | assign x =>
   simp only [ho, N.val, Option.some.injEq] at hv; subst hv; exact one _ (h.aS (bh h x) hd) (fun w' => by simp [execOp, ho])
 | pick x y z =>
   simp only [ho] at hv; have hx := bh h x
   cases hq : lz st x with
   | agg _ => simp [hq, N.val] at hv
   | mz _ => simp [hq, N.val] at hv
   | one cx => cases cx with
     | bool b =>
       rw [hq] at hx; have e : a.eval x = .bool b := hx; simp only [hq] at hv; rcases vE hv with ⟨hb, yR⟩ | ⟨hb, yR⟩
       · simp only [N.val, Option.some.injEq] at yR; rw [← yR] at one ⊢; subst hb; exact one _ (h.aS (bh h y) hd) (fun w' => by simp [execOp, ho, e, asBool])
       · simp only [N.val, Option.some.injEq] at yR; rw [← yR] at one ⊢; subst hb; exact one _ (h.aS (bh h z) hd) (fun w' => by simp [execOp, ho, e, asBool])
     | _ => simp [hq, N.val] at hv
 | build t parts =>
   simp only [ho] at hv
   cases hr : T.row t with
   | none => simp [hr, N.val] at hv
   | some r => cases hg : T.agg t with
     | false => simp [hr, hg, N.val] at hv
     | true =>
       simp only [hr, hg] at hv
       cases hfc : nG T t (nE r) (parts.toList.map fun p => (p.1, lz st p.2)) with
       | none => simp [hfc, N.val] at hv
       | some cs =>
         simp only [hfc, N.val, Option.some.injEq] at hv; subst hv; obtain ⟨v, h1, h2⟩ := OL hT h hr hg (HM h parts) hfc hd; exact one v (h2) (fun w' => by simp only [execOp, ho]; exact qI (h1 w'))
 | nilCheck x =>
   simp only [ho] at hv; have hx := bh h x
   cases hq : lz st x with
   | agg _ => simp [hq, N.val] at hv
   | mz _ => simp [hq, N.val] at hv
   | one cx => cases cx with
     | ptr b g off =>
       rw [hq] at hx; simp only [hq] at hv
       cases Ca : di st b g with
       | none => simp [Ca, N.val] at hv
       | some cs =>
         simp only [Ca, N.val, Option.some.injEq] at hv; subst hv; have e := hx.2.2 cs Ca; exact one _ (h.aS (v := .one (.ptr b g off)) hx hd) (fun w' => by simp [execOp, ho, e])
     | Hs a' j g i off =>
       rw [hq] at hx; simp only [hq] at hv
       cases hA : aQ st a' j g with
       | none => simp [hA, N.val] at hv
       | some A =>
         simp only [hA, N.val, Option.some.injEq] at hv; subst hv; obtain ⟨_, b, o', cap, _, e⟩ := hx.2.2 A hA; exact one _ (h.aS (v := .one (.Hs a' j g i off)) hx hd) (fun w' => by simp [execOp, ho, e])
     | _ => simp [hq, N.val] at hv
 | binOp op t x y t2 =>
   simp only [ho] at hv; obtain ⟨v, h1, h2⟩ := RB hT h (fun t ht l m us vs b op ox oy => hE t ht c st w l m us vs b op ox oy) (ox := x) (oy := y) (bh h x) (bh h y) hv hd; exact one v (h2) (fun w' => by simp only [execOp, ho]; exact qI (h1 w'))
 | unOp op t x =>
   cases op with
   | not =>
     simp only [ho] at hv; have hx := bh h x
     cases hq : lz st x with
     | agg _ => simp [hq, N.val] at hv
     | mz _ => simp [hq, N.val] at hv
     | one cx => cases cx with
       | bool b =>
         rw [hq] at hx; have e : a.eval x = .bool b := hx; simp only [hq, N.val, Option.some.injEq] at hv; subst hv; exact one (.bool (!b)) (h.aS (v := .one (.bool (!b))) rfl hd) (fun w' => by simp [execOp, ho, e, Op.unary])
       | _ => simp [hq, N.val] at hv
   | _ => simp [ho, N.val] at hv
 | convert t1 t2 x =>
   simp only [ho] at hv; have hx := bh h x
   split at hv
   · rename_i k1 k2 k n h1 h2 hq; rw [hq] at hx; have e : a.eval x = .int k n := hx; simp only [N.val, Option.some.injEq] at hv; subst hv; obtain ⟨d1, g1, _⟩ := hT.kind _ _ h1; obtain ⟨d2, g2, e2⟩ := hT.kind _ _ h2; simp only [descOf] at e2; subst e2; refine one (.int k2 (k2.wrap n)) (h.aS (v := .one (.int k2 (k2.wrap n))) rfl hd) (fun w' => ?_); simp only [execOp, ho]; refine qI ?_; simp [convert, run_underlying g1, run_underlying g2, e, Conv.intToInt]
   · rename_i b h1 h2 hq; rw [hq] at hx; have e : a.eval x = .string b := hx; simp only [N.val, Option.some.injEq] at hv; subst hv; obtain ⟨d1, g1, e1⟩ := hT.kind _ _ h1; obtain ⟨d2, g2, e2⟩ := hT.kind _ _ h2; simp only [descOf] at e2 e1; subst e2 e1; refine one (.string b) (h.aS (v := .one (.str b)) rfl hd) (fun w' => ?_); simp only [execOp, ho]; refine qI ?_; simp [convert, run_underlying g1, run_underlying g2, e]
   · rename_i cx _ _ hq; rw [ho] at hk; simp only [hq] at hk
     split at hv
     · cases cx <;> first | (simp [ly, N.val] at hv; done) | (simp at hk; done)
     · simp [N.val] at hv
   · simp [N.val] at hv
 | slice t x lo hi mx =>
   cases mx with
   | some _ => simp [ho, N.val] at hv
   | none =>
     simp only [ho] at hv; obtain ⟨v, h1, h2⟩ := Mr hT h (bh h x) (Tf h lo) (Tf h hi) hv hd; exact one v (h2) (fun w' => by simp only [execOp, ho]; exact qI (h1 w'))
 | fieldAddr t x f =>
   simp only [ho] at hv; have hx := bh h x; have place : ∀ (b q k : Nat), T.off t f = some k → a.eval x = .pointer (some ⟨b, q, none⟩) → ∀ w' : World, (execOp a.eval o).run P w' = .ok (.value (.pointer (some ⟨b, q + k, none⟩))) w' := by
     intro b q k hk e w'; obtain ⟨fs, rG, n, g1, g2, g3, g4⟩ := hT.off t f k hk
     cases hi : P.info? rG.type with
     | none => simp [hi] at g4
     | some i =>
       simp only [hi, Option.map_some, Option.some.injEq] at g4; simp only [execOp, ho]; refine qI ?_; subst g3; simp [Instr.fieldAt, run_underlying g1, g2, e, Instr.sureAddr, fieldPlace, sizeOf, typeInfo, hi, g4, Addr.add]
   split at hv
   · rename_i b g off k hq hk; rw [hq] at hx
     cases Ca : di st b g with
     | none => simp [Ca, N.val] at hv
     | some cs =>
       simp only [Ca, N.val, Option.some.injEq] at hv; subst hv; have e := hx.2.2 cs Ca; refine one (.pointer (some ⟨c.bx b, off + k, none⟩)) (h.aS (v := .one (.ptr b g (off + k))) ⟨rfl, hx.2.1, fun mA JD => rfl⟩ hd) (place _ _ k hk e)
   · rename_i a' j g i off k hq hk; rw [hq] at hx
     cases hA : aQ st a' j g with
     | none => simp [hA, N.val] at hv
     | some A =>
       simp only [hA, N.val, Option.some.injEq] at hv; subst hv; obtain ⟨hi, b, o', cap, hl, e⟩ := hx.2.2 A hA; refine one (.pointer (some ⟨b, o' + i * A.r.width + off + k, none⟩)) (h.aS (v := .one (.Hs a' j g i (off + k))) ⟨rfl, hx.2.1, fun A' dQ => ?_⟩ hd) (place _ _ k hk e); rw [hA] at dQ
       cases dQ
       exact ⟨hi, b, o', cap, hl, by rw [Nat.add_assoc]⟩
   · rename_i r y off k hq hk; rw [hq] at hx; simp only [N.val, Option.some.injEq] at hv; subst hv; obtain ⟨b, o', e, h1, h2, h3⟩ := hx; exact one (.pointer (some ⟨b, o' + off + k, none⟩)) (h.aS (v := .one (.lf r y (off + k))) ⟨b, o', by rw [Nat.add_assoc], h1, h2, h3⟩ hd) (place _ _ k hk e)
   · rename_i r ys off k hq hk; rw [hq] at hx; simp only [N.val, Option.some.injEq] at hv; subst hv; obtain ⟨b, o', e, h1, h2, h3⟩ := hx; exact one (.pointer (some ⟨b, o' + off + k, none⟩)) (h.aS (v := .one (.sn r ys (off + k))) ⟨b, o', by rw [Nat.add_assoc], h1, h2, h3⟩ hd) (place _ _ k hk e)
   · simp [N.val] at hv
 | indexAddr t x i =>
   simp only [ho] at hv; obtain ⟨v, h1, h2⟩ := Mp hT h (bh h x) (bh h i) hv hd; exact one v (h2) (fun w' => by simp only [execOp, ho]; exact qI (h1 w'))
 | index t x i =>
   simp only [ho] at hv; have hx := bh h x; have hi := bh h i
   split at hv
   · rename_i s k n h1 UE JI; rw [UE] at hx; rw [JI] at hi; have e1 : a.eval x = .string s := hx; have e2 : a.eval i = .int k n := hi; obtain ⟨Q3, hv⟩ := eX hv; obtain ⟨YI, hv⟩ := eX hv; have Q3 := of_decide_eq_true Q3; have YI := of_decide_eq_true YI; simp only [N.val, Option.some.injEq] at hv; subst hv; obtain ⟨d1, g1, e3⟩ := hT.kind _ _ h1; simp only [descOf] at e3; subst e3; have bN : n.toNat < s.size := by omega
     have hb : s[n.toNat]? = some s[n.toNat] := getElem?_pos s n.toNat bN; refine one (.int .u8 (Gl s n)) (h.aS (v := .one (.int .u8 (Gl s n))) rfl hd) (fun w' => ?_); simp only [execOp, ho]; refine qI ?_; simp [Instr.index, e1, e2, asIntOf, run_underlying g1, Q3, hb, Gl]
   · simp [N.val] at hv
 | field t x f =>
   simp only [ho] at hv; have hx := bh h x
   cases hq : lz st x with
   | one _ => simp [hq, N.val] at hv
   | mz _ => simp [hq, N.val] at hv
   | agg cs =>
     rw [hq] at hx; simp only [hq] at hv
     cases Cb : T.off t f with
     | none => simp [Cb, N.val] at hv
     | some k =>
       simp only [Cb] at hv; obtain ⟨h1, hv⟩ := dv hv
       cases hn : nth cs k with
       | none => simp [hn, N.val] at hv
       | some u =>
         simp only [hn, N.val, Option.some.injEq] at hv; subst hv; obtain ⟨vs, e, hl, he⟩ := hx; rw [fL] at hn; have bN : k < vs.size := by rw [← Array.length_toList, ← hl]; exact (List.getElem?_eq_some_iff.1 hn).1
         have hg : vs[k]? = some vs[k] := Array.getElem?_eq_getElem bN; obtain ⟨fs, rG, d1, g1, g2, g3, g4⟩ := hT.one t f h1; obtain ⟨fs', alA, _, YM, g2', g5, _⟩ := hT.off t f k Cb; rw [g1] at YM; injection YM with YM; injection YM with YM; subst YM; rw [g2] at g2'; injection g2' with g2'; subst g2'; refine one vs[k] (h.aS (v := .one u) (he k u _ hn (by rw [Array.getElem?_toList]; exact hg)) hd) (fun w' => ?_); simp only [execOp, ho]; refine qI ?_; have Um : (isAgg rG.type).run P w' = .ok false w' := by
           unfold isAgg; rw [Sem.run_bind, run_underlying g3 w']
           cases d1 <;> simp_all [TypeDesc.isRow]
         simp [Instr.field, e, run_underlying g1, g2, part, asAgg, Um, g5, hg]
 | extract t i =>
   simp only [ho] at hv; have hx := bh h t
   cases hq : lz st t with
   | one _ => simp [hq, N.val] at hv
   | agg _ => simp [hq, N.val] at hv
   | mz vs =>
     rw [hq] at hx; simp only [hq] at hv
     cases hn : nth vs i with
     | none => simp [hn, N.val] at hv
     | some u =>
       simp only [hn, N.val, Option.some.injEq] at hv; subst hv; obtain ⟨us, e, hl, he⟩ := hx; rw [fL] at hn; have bN : i < us.size := by rw [← hl]; exact (List.getElem?_eq_some_iff.1 hn).1
       have hg : us[i]? = some us[i] := Array.getElem?_eq_getElem bN; refine one us[i] (h.aS (HN (he i u _ hn hg)) hd) (fun w' => ?_); simp only [execOp, ho]; refine qI ?_; simp [Instr.extract, e, hg]
 | call cl =>
   obtain ⟨callee, args, Mt⟩ := cl
   cases callee with
   | invoke r n => simp [ho, N.val] at hv
   | value x =>
     cases x with
     | func f => simp [ho] at hk
     | tmp f => simp [ho] at hk
     | _ => simp [ho, N.val] at hv
   | builtin b =>
     have hx := fun x => bh h x
     simp only [ho] at hv; have Lo : ∀ x y, args.toList = [x, y] → args = #[x, y] := fun x y e => by rw [← Array.toArray_toList (xs := args), e]
     split at hv
     · rename_i x t ha ht; have ha : args = #[x] := by rw [← Array.toArray_toList (xs := args), ha]
       have ht : Mt = #[t] := by rw [← Array.toArray_toList (xs := Mt), ht]
       subst ha ht; obtain ⟨v, h1, h2⟩ := RC (ty := o.type) hT h (bh h x) hv hd; exact one v (h2) (fun w' => by simp only [execOp, ho]; simp [resolve, invoke, builtin, Sem.run_bind, h1 w'])
     · rename_i x y t u ha ht; simp [ho] at hk
     · rename_i ts x y ha; have ha := Lo x y ha; subst ha
       split at hv
       · rename_i k p l q UE JI; have e1 := bh h x; have e2 := bh h y; rw [UE] at e1; rw [JI] at e2; have e1 : a.eval x = .int k p := e1; have e2 : a.eval y = .int l q := e2; simp only [N.val, Option.some.injEq] at hv; subst hv; exact one _ (h.aS (v := .one (.int k (if q < p then q else p))) (u := .int k (if q < p then q else p)) rfl hd) (fun w' => by simp only [execOp, ho]; simp [resolve, invoke, builtin, Sem.run_bind, Builtin.min_, Builtin.min2, e1, e2])
       · simp [N.val] at hv
     · rename_i ts x y ha; have ha := Lo x y ha; subst ha
       split at hv
       · rename_i k p l q UE JI; have e1 := bh h x; have e2 := bh h y; rw [UE] at e1; rw [JI] at e2; have e1 : a.eval x = .int k p := e1; have e2 : a.eval y = .int l q := e2; simp only [N.val, Option.some.injEq] at hv; subst hv; exact one _ (h.aS (v := .one (.int k (if q > p then q else p))) (u := .int k (if q > p then q else p)) rfl hd) (fun w' => by simp only [execOp, ho]; simp [resolve, invoke, builtin, Sem.run_bind, Builtin.max_, Builtin.max2, e1, e2])
       · simp [N.val] at hv
     · rename_i ts x y z ha; have ha : args = #[x, y, z] := by rw [← Array.toArray_toList (xs := args), ha]
       subst ha
       split at hv
       · rename_i k p l q m s UE JI ZE; have e1 := bh h x; have e2 := bh h y; have e3 := bh h z; rw [UE] at e1; rw [JI] at e2; rw [ZE] at e3; have e1 : a.eval x = .int k p := e1; have e2 : a.eval y = .int l q := e2; have e3 : a.eval z = .int m s := e3; simp only [N.val, Option.some.injEq] at hv; subst hv; exact one _ (h.aS (v := .one (.int k (if s < (if q < p then q else p) then s else (if q < p then q else p)))) (u := .int k (if s < (if q < p then q else p) then s else (if q < p then q else p))) rfl hd) (fun w' => by simp only [execOp, ho]; simp [resolve, invoke, builtin, Sem.run_bind, Builtin.min_, Builtin.min2, e1, e2, e3])
       · simp [N.val] at hv
     · simp [N.val] at hv
 | _ => simp [ho] at hk
theorem UF {P : Program} {T : ki} (hT : fI P T) (hE : u9 P T) {S : ju} {w0 : World} {mu : Mu} {c : Cz} {st : St} {a : Act} {w : World} (h : Rel w0 mu c st a w) {o : Oper} (hf : Op.JO o.op = false) (rJ : Hu st o = false)
   {aP : St} (hv : (Jk T S st o).val = some aP) (hd : ∀ k, o.dst = some k → k < a.tmps.size) : vH P w0 mu aP o a w (kindOk S st o .one) := by
 by_cases hp : kindOk S st o .any = true
 · obtain ⟨v, h1, h2⟩ := Ln hT hE h hp hv hd; exact tG (h1 w) h2 (fun _ => iJ.refl w)
 have one : ∀ (v : Value) (w' : World), (∃ c', Rel w0 mu c' aP (a.put o.dst v) w') → iJ w w' → (execOp a.eval o).run P w = .ok (.value v) w' → vH P w0 mu aP o a w (kindOk S st o .one) :=
   fun v w' ⟨c', h'⟩ hk hr => tG hr h' (fun _ => hk)
 unfold kindOk at hp; unfold Jk at hv
 cases ho : o.op with
 | alloc t =>
   simp only [ho] at hv
   cases hr : T.row t with
   | none => simp [hr, N.val] at hv
   | some r =>
     simp only [hr] at hv; obtain ⟨k, s0, hk, iE, rfl⟩ := Br hv; obtain ⟨i, z, hi, hz, Jm⟩ := hT.row t r hr; refine one _ _ ⟨_, hk ▸ h.iH (ty := t) iE (hd k hk) (vG Jm)⟩ (iJ.alloc _ _) ?_; simp [execOp, ho, Instr.alloc, zeroValue, typeInfo, hi, hz, newVar, newRow]
 | box t x =>
   simp only [ho] at hv
   cases hn : T.cells t with
   | none => simp [hn, N.val] at hv
   | some n =>
     simp only [hn] at hv; obtain ⟨hc, hv⟩ := dv hv; rw [Bool.and_eq_true] at hc; obtain ⟨oT, _⟩ := (bh h x).cells hc.1
     cases ku : (bif T.cap t then dH (lz st x).cells else none) with
     | none =>
       rw [ku] at hv; obtain ⟨k, s0, hk, iE, rfl⟩ := Br hv; refine one _ _ ⟨_, hk ▸ h.iH (ty := t) iE (hd k hk) oT⟩ (iJ.alloc _ _) ?_; simp [execOp, ho, Instr.box, newVar, newRow]
     | some p =>
       obtain ⟨r, y⟩ := p; rw [ku] at hv; simp only [N.val, Option.some.injEq] at hv; subst hv; have hp2 : dH (lz st x).cells = some ⟨r, y⟩ := by
         cases hcp : T.cap t with
         | true => rw [hcp] at ku; exact ku
         | false => rw [hcp] at ku; cases ku
       have CX : c.ok w.heap.size := by
         unfold Cz.ok
         cases hq : c.own w.heap.size with
         | none => rfl
         | some l => exact absurd (h.owned _ l hq).1 (Nat.lt_irrefl _)
       have sJ : dU c st (w.alloc (.cells (a.eval x).cells t (0, 0))) (.one (.lf r y 0)) (.pointer (some ⟨w.heap.size, 0, none⟩)) :=
         ⟨w.heap.size, 0, rfl, by simp, CX, mg (Fw.grow h _).stays _ hp2 _ 0 oT fun i v hv => by
           rw [Nat.zero_add]; exact HJ (heap_alloc_new w _) hv⟩
       refine one (.pointer (some ⟨w.heap.size, 0, none⟩)) (w.alloc (.cells (a.eval x).cells t (0, 0))) ⟨c, (h.grow _).aS sJ hd⟩ (iJ.alloc _ _) ?_; simp [execOp, ho, Instr.box, newVar, newRow]
 | makeFunc fn first vt =>
   cases fn with
   | func g =>
     simp only [ho] at hv; obtain ⟨aeA, hv⟩ := dv hv
     cases hc : xq st vt.toList with
     | none => simp [hc, N.val] at hv
     | some p =>
       obtain ⟨Ak, rs, x⟩ := p; rw [hc] at hv; simp only [N.val, Option.some.injEq] at hv; subst hv; obtain ⟨c1, h1, h2, h3⟩ := HK _ h hc; have hf0 : first = #[] := by simpa using aeA
       subst hf0; have sJ : dU c1 Ak w (.one (.fn g rs [x])) (.func (.func g) #[] (vt.map a.eval)) :=
         ⟨_, rfl, fun y hy => by
           simp at hy; subst hy; rw [Array.toList_map]; exact h3⟩
       exact one _ w ⟨c1, h1.aS sJ hd⟩ (iJ.refl w) (by simp [execOp, ho, Instr.makeFunc])
   | _ => simp [ho, N.val] at hv
 | buildSlice t len parts =>
   simp only [ho] at hv; obtain ⟨v, w', h1, RF, c', h2⟩ := CS hT h (HM h parts) hv hd; exact one v w' ⟨c', h2⟩ RF (by simp only [execOp, ho]; exact qI h1)
 | makeSlice t l cp =>
   simp only [ho] at hv; obtain ⟨v, w', h1, RF, c', h2⟩ := OJ hT h (bh h l) (bh h cp) hv hd; exact one v w' ⟨c', h2⟩ RF (by simp only [execOp, ho]; exact qI h1)
 | load t x =>
   simp only [ho] at hv; obtain ⟨v, h1, h2⟩ := Hw hT h (bh h x) hv hd; exact one v w ⟨c, h2⟩ (iJ.refl w) (by simp only [execOp, ho]; exact qI (h1 w (iJ.refl w)))
 | store t x y =>
   simp only [ho] at hv
   cases vd : o.dst with
   | some _ => simp [vd, N.val] at hv
   | none =>
     simp only [vd] at hv; obtain ⟨w', h1, c', h2⟩ := Mm hT h (bh h x) (bh h y) hv; intro Q; have hr : (execOp a.eval o).run P w = .ok .skip w' := by simp [execOp, ho, Sem.run_bind, h1]
     unfold Oper.wp; rw [hr]; refine ⟨⟨c', ?_, qH a _ _⟩, fun hk => ?_⟩
     · rw [vd]; exact h2
     · simp [kindOk, ho] at hk
 | call cl =>
   obtain ⟨callee, args, Mt⟩ := cl
   cases callee with
   | invoke r n => simp [ho, N.val] at hv
   | value x =>
     cases x with
     | func f => simp [ho, Op.JO] at hf
     | tmp f => simp [ho, Op.JO] at hf
     | _ => simp [ho, N.val] at hv
   | builtin b =>
     simp only [ho] at hv; have Lo : ∀ x y, args.toList = [x, y] → args = #[x, y] := fun x y e => by rw [← Array.toArray_toList (xs := args), e]
     split at hv
     · simp [ho] at hp
     · rename_i x y t u ha ht; obtain ⟨UG, yR⟩ := dv hv; have UG := Nat.eq_of_beq_eq_true UG; subst UG; have ha := Lo x y ha; have ht : Mt = #[t, t] := by rw [← Array.toArray_toList (xs := Mt), ht]
       subst ha ht; have UH : lG st [(.io, lz st x)] = none := by
         unfold Hu at rJ; simp only [ho] at rJ
         cases hq : lG st [(.io, lz st x)] with
         | none => rfl
         | some _ => rw [hq] at rJ; cases rJ
       unfold Gp at yR; rw [UH] at yR; obtain ⟨v, w', h1, c', h2⟩ := CQ (ty := o.type) hT h (bh h x) (bh h y) yR hd; exact tG (c' := c') (by simp only [execOp, ho]; simp [resolve, invoke, builtin, Sem.run_bind, h1]) h2 (fun hk => by simp [kindOk, ho] at hk)
     · simp [ho] at hp
     · simp [ho] at hp
     · simp [ho] at hp
     · simp [N.val] at hv
 | move _ => simp [ho] at hp
 | assign _ => simp [ho] at hp
 | pick _ _ _ => simp [ho] at hp
 | build _ _ => simp [ho] at hp
 | nilCheck _ => simp [ho] at hp
 | binOp _ _ _ _ _ => simp [ho] at hp
 | unOp _ _ _ => simp [ho] at hp
 | convert t1 t2 x =>
   simp only [ho] at hv hp; have hx := bh h x
   split at hv
   · rename_i hq; simp [hq] at hp
   · rename_i hq; simp [hq] at hp
   · rename_i cx h1 h2 hq
     split at hv
     · rename_i b he; rw [hq] at hx; obtain ⟨ys, h3, h4⟩ := Bq h hx hv; simp only [N.val, Option.some.injEq] at h3; subst h3; obtain ⟨e, i, z, g1, g2, g3, g4, g5, _⟩ := hT.elem _ _ _ he; obtain ⟨d2, q2, e2⟩ := hT.kind _ _ h2; simp only [descOf] at e2; subst e2; have hu8 : P.underlying e = some (.int .u8) := hT.u8 t1 e b he g1; have hr := Ms (P := P) h4; refine one (.string (bytesOf ys)) w ⟨c, h.aS (v := .one (.str (bytesOf ys))) rfl hd⟩ (iJ.refl w) ?_; simp only [execOp, ho]; refine qI ?_; rcases h4 with ⟨hn, _⟩ | ⟨a0, cap, hn, _⟩
       · rw [hn] at hr ⊢; rw [run_convert_bytes_string w t1 t2 e none 0 0 g1 hu8 q2]; exact hr
       · rw [hn] at hr ⊢; rw [run_convert_bytes_string w t1 t2 e (some a0) _ cap g1 hu8 q2]; exact hr
     · simp [N.val] at hv
   · simp [N.val] at hv
 | slice _ _ _ _ _ => simp [ho] at hp
 | fieldAddr _ _ _ => simp [ho] at hp
 | indexAddr _ _ _ => simp [ho] at hp
 | index _ _ _ => simp [ho] at hp
 | extract _ _ => simp [ho] at hp
 | field _ _ _ => simp [ho] at hp
 | _ => simp [ho, N.val] at hv
end Go.TM
namespace Go.TM
open Go Go.RowKit
def rS (P : Program) (T : ki) (S : ju) (w0 : World) (mu : Mu) (n : Nat) : Prop :=
 ∀ {c : Cz} {st aP : St} {a : Act} {w : World} {o : Oper}, Rel w0 mu c st a w → a.tmps.size = n → (∀ k, o.dst = some k → k < n) → (Jk T S st o).val = some aP → vH P w0 mu aP o a w (kindOk S st o .one)
theorem CY (a : Act) (d : Nat) (v : Value) (hd : d < a.tmps.size) (h : a.eval (.tmp d) = v) : a.put (some d) v = a := by
 obtain ⟨tm, df⟩ := a; simp only [Act.put, Act.mk.injEq, and_true]; simp only [Act.eval, Array.getD_eq_getD_getElem?, Array.getElem?_eq_getElem hd, Option.getD_some] at h; apply Array.ext
 · simp
 · intro i h1 h2; rw [Array.getElem_setIfInBounds h2]
   split
   · rename_i e; subst e; exact h.symm
   · rfl
theorem wL {w0 : World} {mu : Mu} {c : Cz} {st : St} {a : Act} {w : World} (h : Rel w0 mu c st a w) {d : Nat} {b : Bool} (hg : bK st d = .one (.bool b)) :
   d < a.tmps.size ∧ a.eval (.tmp d) = .bool b := by
 have h1 := h.eI d; rw [hg] at h1; have h1 : a.eval (.tmp d) = .bool b := h1; refine ⟨?_, h1⟩; rcases Nat.lt_or_ge d a.tmps.size with h2 | h2
 · exact h2
 · simp [Act.eval, Array.getD_eq_getD_getElem?, Array.getElem?_eq_none h2, undef] at h1
theorem Rel.ZF {w0 : World} {mu : Mu} {c : Cz} {st : St} {a : Act} {w : World} (h : Rel w0 mu c st a w) {d : Nat} {b : Bool} (hg : bK st d = .one (.bool b)) :
   Rel w0 mu c (TM.aS st (some d) (.one (.bool b))) a w := by
 obtain ⟨h1, h2⟩ := wL h hg; have := h.aS (d := some d) (v := .one (.bool b)) (u := .bool b) rfl (fun t e => by cases e; exact h1)
 rwa [CY a d _ h1 h2] at this
theorem CZ {ops : Array Oper} {a : Act} {j d : Nat} {b : Bool} (hj : (nth ops.toList j).bind (·.dst) = some d) (hd : d < a.tmps.size) (h : a.eval (.tmp d) = .bool b) : yielded ops a.tmps j = some b := by
 rw [fL, Array.getElem?_toList] at hj; unfold yielded; rw [hj]; simp only [Act.eval, Array.getD_eq_getD_getElem?, Array.getElem?_eq_getElem hd, Option.getD_some] at h; simp [Array.getElem?_eq_getElem hd, h]
theorem wM : (st : St) → (d : Nat) → {v : V} → bK st d = v → TM.aS st (some d) v = st
 | [], _, _, _ => rfl
 | s :: l, 0, v, h => by
   have h : s.v = v := h; subst h; rfl
 | s :: l, d + 1, v, h => congrArg (s :: ·) (wM l d h)
theorem HO {S : ju} {st : St} {o : Oper} {d : Nat} {b : Bool} {k : Kd} (h : bK st d = .one (.bool b)) : kindOk S (TM.aS st (some d) (.one (.bool b))) o k = kindOk S st o k := by
 rw [wM st d h]
theorem wN (c : Cz) (st : St) (w : World) : dU c st w (.mz []) undef := ⟨#[], rfl, rfl, fun i x y hx => by simp at hx⟩
theorem xv {ops : Array Oper} {a : Act} {j d : Nat} (hj : (nth ops.toList j).bind (·.dst) = some d) (h : a.eval (.tmp d) = undef) : yielded ops a.tmps j = none := by
 rw [fL, Array.getElem?_toList] at hj; unfold yielded; rw [hj]; simp only [Act.eval, Array.getD_eq_getD_getElem?] at h
 cases ht : a.tmps[d]? with
 | none => simp [ht]
 | some v =>
   rw [ht] at h; simp only [Option.getD_some] at h; subst h; simp [ht, undef]
theorem C0 {w0 : World} {mu : Mu} {c : Cz} {st : St} {a : Act} {w : World} (h : Rel w0 mu c st a w) {d : Nat} (hg : bK st d = .mz []) : a.eval (.tmp d) = undef := by
 have h1 := h.eI d; rw [hg] at h1; obtain ⟨vs, e, hl, _⟩ := h1; have : vs = #[] := Array.eq_empty_of_size_eq_zero hl.symm; rw [e, this]; rfl
theorem HP {P : Program} {T : ki} {S : ju} {w0 : World} {mu : Mu} {n : Nat} (EA : rS P T S w0 mu n) {c : Cz} {st aP : St} {a : Act} {w : World} {ops : Array Oper} {o : Oper} (h : Rel w0 mu c st a w) (hn : a.tmps.size = n)
   (hd : ∀ k, o.dst = some k → k < n) (hv : (vu T S ops.toList st o).val = some aP) :
   (Region.wanted o (yielded ops a.tmps) = true ∧ vH P w0 mu aP o a w (kindOk S st o .one)) ∨ (Region.wanted o (yielded ops a.tmps) = false ∧ Rel w0 mu c aP (a.put o.dst undef) w) := by
 unfold vu at hv; unfold Region.wanted
 cases hg : o.guard with
 | none =>
   simp only [hg] at hv ⊢; exact .inl ⟨trivial, EA h hn hd hv⟩
 | some p =>
   obtain ⟨j, want⟩ := p; simp only [hg] at hv ⊢
   cases hj : (nth ops.toList j).bind (·.dst) with
   | none => simp [hj, N.val] at hv
   | some d =>
     simp only [hj] at hv
     split at hv
     · rename_i b OQ; obtain ⟨h1, h2⟩ := wL h OQ; have hy := CZ (ops := ops) hj h1 h2; rw [hy]; have hk := h.ZF OQ; have yes : (Jk T S (TM.aS st (some d) (.one (.bool b))) o).val = some aP → vH P w0 mu aP o a w (kindOk S st o .one) := fun e => (HO OQ) ▸ EA hk hn hd e
       have no : (N.done (TM.aS (TM.aS st (some d) (.one (.bool b))) o.dst (.mz []))).val = some aP → Rel w0 mu c aP (a.put o.dst undef) w := by
         intro e; simp only [N.val, Option.some.injEq] at e; subst e; exact hk.aS (wN _ _ _) (fun k Cb => by rw [hn]; exact hd k Cb)
       rcases vE hv with ⟨hb, yR⟩ | ⟨hb, yR⟩
       · subst hb
         cases want
         · exact .inr ⟨rfl, no yR⟩
         · exact .inl ⟨rfl, yes yR⟩
       · subst hb
         cases want
         · exact .inl ⟨rfl, yes yR⟩
         · exact .inr ⟨rfl, no yR⟩
     · rename_i OQ; simp only [N.val, Option.some.injEq] at hv; subst hv; rw [xv (ops := ops) hj (C0 h OQ)]; exact .inr ⟨by cases want <;> rfl, h.aS (wN _ _ _) (fun k Cb => by rw [hn]; exact hd k Cb)⟩
     · simp [N.val] at hv
def xI (n : Nat) (ops : List Oper) : Bool := ops.all fun o => match o.dst with | some k => Nat.blt k n | none => true
theorem Ap {n : Nat} {ops : List Oper} (h : xI n ops = true) {o : Oper} (ho : o ∈ ops) : ∀ k, o.dst = some k → k < n := by
 intro k hk; have := List.all_eq_true.1 h o ho; rw [hk] at this; exact Nat.le_of_ble_eq_true this
def Next {R : Type} (w0 : World) (mu : Mu) (n : Nat) (r : R) (k : St → Option R) (K : Act → World → Prop) : Prop :=
 ∀ {c : Cz} {st : St} {a : Act} {w : World}, Rel w0 mu c st a w → a.tmps.size = n → k st = some r → K a w
theorem GB {R : Type} {P : Program} {T : ki} {S : ju} {w0 : World} {mu : Mu} {n : Nat} (EA : rS P T S w0 mu n) {ops : Array Oper} {Q : Exit → Act → World → Prop} {k : St → Option R} {r : R} (hk : Next w0 mu n r k (Q .normal)) :
   (l : List Oper) → xI n l = true → {c : Cz} → {st : St} → {a : Act} → {w : World} → Rel w0 mu c st a w → a.tmps.size = n → Mc T S ops.toList l st k = some r → wpList P ops Q l a w
 | [], _, _, _, _, _, h, hn, hv => hk h hn hv
 | o :: l, hl, c, st, a, w, h, hn, hv => by
   unfold Mc at hv; rw [N.fold_eq] at hv; obtain ⟨aP, h1, h2⟩ := Option.bind_eq_some_iff.1 hv; have hd := Ap hl (o := o) List.mem_cons_self; have xr : xI n l = true := by
     unfold xI at hl ⊢; rw [List.all_cons, Bool.and_eq_true] at hl; exact hl.2
   refine wpList_step fun K hK => ?_
   rcases HP EA h hn hd h1 with ⟨hw, hs⟩ | ⟨hw, hs⟩
   · rw [if_pos hw]; refine Oper.wp_mono (fun a' w' ⟨⟨c', hr, kO⟩, _⟩ => hK a' w' ?_) (hs Q); exact GB EA hk l xr hr (kO.trans hn) h2
   · rw [if_neg (by rw [hw]; decide)]; exact hK _ _ (GB EA hk l xr hs ((qH _ _ _).trans hn) h2)
def Ex.go : Ex → Exit
 | .normal => .normal
 | .exit n => .exit n
 | .ret => .ret
def Lp {R : Type} (w0 : World) (mu : Mu) (n : Nat) (r : R) (k : Ex → St → Option R) (Q : Exit → Act → World → Prop) : Prop :=
 ∀ {e : Ex} {c : Cz} {st : St} {a : Act} {w : World}, Rel w0 mu c st a w → a.tmps.size = n → k e st = some r → Q e.go a w
def eR (n : Nat) : Code → Bool
 | .region _ ops _ => xI n ops.toList
 | .seq a b => eR n a && eR n b
 | .cond _ a b => eR n a && eR n b
 | .block _ a => eR n a
 | .loop a => eR n a
 | _ => true
def lW {R : Type} (P : Program) (w0 : World) (mu : Mu) (n : Nat) (L : mE R) (r : R) (id : Nat) (b : Code) : Prop :=
 ∀ {k : Ex → St → Option R} {Q : Exit → Act → World → Prop}, Lp w0 mu n r k Q → ∀ {c : Cz} {st : St} {a : Act} {w : World}, Rel w0 mu c st a w → a.tmps.size = n →
   L id b st k = some r → (Code.block id (.loop b)).wp P Q a w
def dw (ok : Nat → Code → Prop) : Code → Prop
 | .seq a b => dw ok a ∧ dw ok b
 | .cond _ a b => dw ok a ∧ dw ok b
 | .block id (.loop b) => ok id b
 | .block _ a => dw ok a
 | _ => True
def qo (R : Type) (P : Program) (T : ki) (S : ju) (D : kn) (w0 : World) (mu : Mu) (n : Nat) (ok : Nat → Array Oper → Prop) : Prop :=
 ∀ {id : Nat} {ops : Array Oper} {Q : Exit → Act → World → Prop} {k : St → Option R} {r : R}, ok id ops → xI n ops.toList = true → Next w0 mu n r k (Q .normal) → ∀ {c : Cz} {st : St} {a : Act} {w : World}, Rel w0 mu c st a w → a.tmps.size = n →
   oW T S ops.toList (D id) st k = some r → (Code.region id ops true).wp P Q a w
def dK (ok : Nat → Array Oper → Prop) : Code → Prop
 | .region id ops true => ok id ops
 | .seq a b => dK ok a ∧ dK ok b
 | .cond _ a b => dK ok a ∧ dK ok b
 | .block _ (.loop _) => True
 | .block _ a => dK ok a
 | _ => True
theorem zm {R : Type} {P : Program} {T : ki} {S : ju} {D : kn} {L : mE R} {w0 : World} {mu : Mu} {n : Nat} {r : R} {ok : Nat → Array Oper → Prop} (EA : rS P T S w0 mu n) (hD : qo R P T S D w0 mu n ok) :
   (cd : Code) → eR n cd = true → dw (lW P w0 mu n L r) cd → dK ok cd → {k : Ex → St → Option R} → {Q : Exit → Act → World → Prop} → Lp w0 mu n r k Q →
   {c : Cz} → {st : St} → {a : Act} → {w : World} → Rel w0 mu c st a w → a.tmps.size = n → dI T S D L cd st k = some r → cd.wp P Q a w := by
 intro cd
 induction cd with
 | skip =>
   intro _ _ _ k Q hk c st a w h hn hv; unfold dI at hv; exact wp_skip (hk h hn hv)
 | region id ops draw =>
   intro hd hL hw k Q hk c st a w h hn hv
   cases draw with
   | false =>
     unfold dI at hv; exact wp_region_list (GB EA (Q := Q) (k := fun aP => k .normal aP) (fun h1 h2 h3 => hk h1 h2 h3) ops.toList hd h hn hv)
   | true =>
     unfold dI at hv; exact hD hw hd (k := fun aP => k .normal aP) (fun h1 h2 h3 => hk h1 h2 h3) h hn hv
 | seq x y ihx ihy =>
   intro hd hL hw k Q hk c st a w h hn hv; unfold dI at hv; unfold eR at hd; rw [Bool.and_eq_true] at hd; refine wp_seq (ihx hd.1 hL.1 hw.1 (fun {e} {c} {st} {a} {w} h1 h2 h3 => ?_) h hn hv)
   cases e with
   | normal => exact ihy hd.2 hL.2 hw.2 hk h1 h2 h3
   | exit m => exact hk h1 h2 h3
   | ret => exact hk h1 h2 h3
 | cond x y z ihy ihz =>
   intro hd hL hw k Q hk c st a w h hn hv; unfold eR at hd; rw [Bool.and_eq_true] at hd
   cases x with
   | tmp t =>
     unfold dI at hv
     split at hv
     · rename_i b hg; obtain ⟨_, h2⟩ := wL h hg; have hkn := h.ZF hg
       cases b with
       | true => exact wp_cond_true h2 (ihy hd.1 hL.1 hw.1 hk hkn hn hv)
       | false => exact wp_cond_false h2 (ihz hd.2 hL.2 hw.2 hk hkn hn hv)
     · cases hv
   | _ => unfold dI at hv; cases hv
 | block id b ih =>
   intro hd hL hw k Q hk c st a w h hn hv
   by_cases hb : ∃ b', b = .loop b'
   · obtain ⟨b', rfl⟩ := hb; unfold dI at hv; exact hL hk h hn hv
   · have nv : dI T S D L b st (fun e aP => match e with
         | .exit n => bif Nat.beq n id then k .normal aP else k (.exit n) aP
         | e => k e aP) = some r := by
       cases b with
       | loop b' => exact absurd ⟨b', rfl⟩ hb
       | _ => unfold dI at hv; exact hv
     have YN : dK ok b := by
       cases b with
       | loop b' => exact absurd ⟨b', rfl⟩ hb
       | _ => unfold dK at hw; exact hw
     have hL' : dw (lW P w0 mu n L r) b := by
       cases b with
       | loop b' => exact absurd ⟨b', rfl⟩ hb
       | _ => unfold dw at hL; exact hL
     refine wp_block (ih hd hL' YN (fun {e} {c} {st} {a} {w} h1 h2 h3 => ?_) h hn nv)
     cases e with
     | normal => exact hk h1 h2 h3
     | ret => exact hk h1 h2 h3
     | exit m =>
       simp only at h3; unfold Exit.inBlock; simp only [Ex.go]
       cases hm : Nat.beq m id with
       | true =>
         rw [hm] at h3; rw [if_pos (Nat.eq_of_beq_eq_true hm)]; exact hk h1 h2 h3
       | false =>
         rw [hm] at h3; rw [if_neg (Nat.ne_of_beq_eq_false hm)]; exact hk (e := .exit m) h1 h2 h3
 | exit id =>
   intro _ _ _ k Q hk c st a w h hn hv; unfold dI at hv; exact wp_exit (hk h hn hv)
 | ret =>
   intro _ _ _ k Q hk c st a w h hn hv; unfold dI at hv; exact wp_ret (hk h hn hv)
 | _ =>
   intro _ _ _ k Q hk c st a w h hn hv; unfold dI at hv
   cases hv
end Go.TM
namespace Go.TM
open Go Go.RowKit
def OwnAt (c : Cz) (w : World) (l : Lb) (lc : Loc) (A : gP) (v : Value) : Prop :=
 v.oneCell' = true ∧ je lc A.r.width 0 A.xs.length v ∧ A.own = true ∧
 match lc with
 | .nil => A.xs = []
 | .at b off cap => c.own b = some l ∧ A.xs.length ≤ cap ∧ (∃ cur ty, w.heap[b]? = some (.cells cur ty (0, 0)) ∧ off + cap * A.r.width ≤ cur.size) ∧
     bm c w l A b off
def bc (c : Cz) (w : World) (f : Nat → Lb) : (j : Nat) → List OV → List Value → Prop
 | _, [], vs => vs = []
 | j, .int k n :: os, vs => ∃ l, vs = .int k n :: l ∧ bc c w f (j + 1) os l
 | j, .bool b :: os, vs => ∃ l, vs = .bool b :: l ∧ bc c w f (j + 1) os l
 | j, .str s :: os, vs => ∃ l, vs = .string s :: l ∧ bc c w f (j + 1) os l
 | j, .dD :: os, vs => ∃ l, vs = .slice none 0 0 :: l ∧ bc c w f (j + 1) os l
 | j, .shr r xs :: os, vs => ∃ v l, vs = v :: l ∧ bH w c.ok (.sl r) v xs ∧ bc c w f (j + 1) os l
 | j, .own A :: os, vs => ∃ v l, vs = v :: l ∧ (∃ lc, OwnAt c w (f j) lc A v) ∧ bc c w f (j + 1) os l
 | j, .lf r xs :: os, vs => ∃ v l, vs = v :: l ∧ E4 w c.ok r v xs ∧ bc c w f (j + 1) os l
 | j, .fn g rs xs :: os, vs => ∃ v l, vs = v :: l ∧ FnAt w c.ok g rs v xs ∧ bc c w f (j + 1) os l
def Fe (c : Cz) (w : World) (i : Nat) (os : List OV) (v : Value) : Prop :=
 ∃ nB vs ty, v = .pointer (some ⟨nB, 0, none⟩) ∧ c.own nB = some (.sE i) ∧ w.heap[nB]? = some (.cells vs ty (0, 0)) ∧ bc c w (.bG i) 0 os vs.toList
def OR (c : Cz) (w : World) (i : Nat) (lc : Nat → Loc) (j : Nat) (o : OV) (u : Value) : Prop :=
 match o with
 | .own A => OwnAt c w (.bG i j) (lc j) A u
 | .dD => lc j = .nil
 | _ => True
def rT (c : Cz) (w : World) (i : Nat) (lc : Nat → Loc) : AV → Value → Prop
 | .val false os, v => bc c w (.bG i) 0 os [v]
 | .val true os, v => ∃ vs, v = .agg vs ∧ bc c w (.bG i) 0 os vs.toList
 | .io A, v => OwnAt c w (.bG i 0) (lc 0) A v
 | .box os, v => Fe c w i os v
 | .bB os, v => ∃ vs, v = .agg vs ∧ bc c w (.bG i) 0 os vs.toList ∧ ∀ j o u, os[j]? = some o → vs.toList[j]? = some u → OR c w i lc j o u
def xJ (c : Cz) (w : World) (lc : Nat → Nat → Loc) : (i : Nat) → List AV → List Value → Prop
 | _, [], vs => vs = []
 | i, a :: as, vs => ∃ v l, vs = v :: l ∧ rT c w i (lc i) a v ∧ xJ c w lc (i + 1) as l
def Lq (c : Cz) (w : World) (i : Nat) (lc : Nat → Loc) (os : List OV) (us : List Value) (As : List (Option gP)) : Prop :=
 ∀ j A, os[j]? = some (.own A) → ∃ B u, nth As j = some (some B) ∧ us[j]? = some u ∧ B.r.width = A.r.width ∧ B.xs.length = A.xs.length ∧ OwnAt c w (.bG i j) (lc j) B u
def iq (c : Cz) (w : World) (lc : Nat → Nat → Loc) : (i : Nat) → List AV → List Value → List XV → Prop
 | _, [], _, xs => xs = []
 | _, _ :: _, [], _ => False
 | i, .val _ _ :: as, _ :: vs, xs => iq c w lc (i + 1) as vs xs
 | i, .io A :: as, v :: vs, xs => ∃ B l, xs = .io B :: l ∧ B.r.width = A.r.width ∧ B.xs.length = A.xs.length ∧ OwnAt c w (.bG i 0) (lc i 0) B v ∧ iq c w lc (i + 1) as vs l
 | i, .box _ :: as, v :: vs, xs => ∃ os l, xs = .box os :: l ∧ Fe c w i os v ∧ iq c w lc (i + 1) as vs l
 | i, .bB os :: as, v :: vs, xs => ∃ As l, xs = .bB As :: l ∧ (∃ us, v = .agg us ∧ Lq c w i (lc i) os us.toList As) ∧ iq c w lc (i + 1) as vs l
def lg (c : Cz) (w : World) : (j : Nat) → List RV → List Value → Prop
 | _, [], vs => vs = []
 | j, .one o :: rs, vs => ∃ v l, vs = v :: l ∧ bc c w .il j [o] [v] ∧ lg c w (j + 1) rs l
 | j, .agg os :: rs, vs => ∃ us l, vs = .agg us :: l ∧ bc c w .il j os us.toList ∧ lg c w (j + os.length) rs l
 | j, .ptr os :: rs, vs => ∃ v l, vs = v :: l ∧ (∃ nB us ty, v = .pointer (some ⟨nB, 0, none⟩) ∧ c.own nB = some (.il j) ∧ w.heap[nB]? = some (.cells us ty (0, 0)) ∧ bc c w .il (j + 1) os us.toList) ∧ lg c w (j + (os.length + 1)) rs l
def qJ (c : Cz) (w : World) (rs : List RV) (v : Value) : Prop :=
 (∃ r, rs = [r] ∧ lg c w 0 [r] [v]) ∨ (rs.length ≠ 1 ∧ ∃ vs, v = .tuple vs ∧ lg c w 0 rs vs.toList)
structure Aq (w0 : World) (mu : Mu) (c : Cz) (w : World) : Prop where
 owned : ∀ b l, c.own b = some l → b < w.heap.size ∧ (l = .out ∨ w0.heap.size ≤ b ∨ mu.m b)
 free : ∀ b, b < w0.heap.size → c.own b = none → mu.m b ∨ mu.ok b
 kept : w.os = w0.os ∧ w.tape = w0.tape ∧ w.output = w0.output ∧ w0.heap.size ≤ w.heap.size
 old : ∀ k, k < w0.heap.size → ¬ mu.m k → w.heap[k]? = w0.heap[k]?
def Lb.jV : Lb → Bool
 | .bG _ _ => true
 | .sE _ => true
 | _ => false
structure Handed (c : Cz) (w : World) (mu : Mu) : Prop where
 m : ∀ b, mu.m b ↔ ∃ l, c.own b = some l ∧ l.jV = true
 ok : ∀ b, mu.ok b ↔ c.own b = none
 lt : ∀ b l, c.own b = some l → b < w.heap.size
 lb : ∀ b l, c.own b = some l → l = .out ∨ l.jV = true
def FnOk (P : Program) (f : FuncId) (Bk : u6) : Prop :=
 ∀ (c : Cz) (w : World) (mu : Mu) (lc : Nat → Nat → Loc) (dt : List AV) (args : Array Value) (A : Ans) (x : ar A.r), Handed c w mu → xJ c w lc 0 dt args.toList → Bk dt = some A → A.o = some x →
   Calls P f args w fun e w' => ∃ v, e = .returned v ∧ ∃ c', Aq w mu c' w' ∧ qJ c' w' (A.res x).outs v ∧ iq c' w' lc 0 dt args.toList (A.res x).exts
mutual
theorem bH.plain {w : World} {ok yU : Nat → Prop} : (t : Ty) → (v : Value) → (x : den t) → RT.dN (.cons t .nil) = false → bH w ok t v x → bH w yU t v x
 | .int _, _, _, _, h => by unfold bH at h ⊢; exact h
 | .bool, _, _, _, h => by unfold bH at h ⊢; exact h
 | .str, _, _, _, h => by unfold bH at h ⊢; exact h
 | .sl _, _, _, hs, _ => by simp [RT.dN] at hs
theorem cn.plain {w : World} {ok yU : Nat → Prop} : (r : RT) → (b off : Nat) → (x : ar r) → r.dN = false → cn w ok r b off x → cn w yU r b off x
 | .nil, _, _, _, _, _ => by unfold cn; trivial
 | .cons t r, b, off, x, hs, h => by
   unfold cn at h ⊢; obtain ⟨⟨v, h1, h2⟩, h3⟩ := h; refine ⟨⟨v, h1, bH.plain t v x.1 ?_ h2⟩, cn.plain r b (off + 1) x.2 ?_ h3⟩
   · cases t <;> simp_all [RT.dN]
   · cases t <;> simp_all [RT.dN]
end
structure Pass (c c' : Cz) (pd : Lb → Prop) : Prop where
 bG : ∀ b l, pd l → c.own b = some l → c'.own b = some l
 ok : ∀ b, c.ok b → c'.ok b
theorem OwnAt.pass {c c' : Cz} {w : World} {l : Lb} {lc : Loc} {A : gP} {v : Value} (hp : ∀ b, c.own b = some l → c'.own b = some l) (ho : (∀ b, c.ok b → c'.ok b) ∨ (!A.r.dN || A.md.is .dp) = true) (h : OwnAt c w l lc A v) : OwnAt c' w l lc A v := by
 unfold OwnAt at h ⊢; obtain ⟨h1, h2, h3, h4⟩ := h; refine ⟨h1, h2, h3, ?_⟩
 cases lc with
 | nil => exact h4
 | «at» b off cap =>
   obtain ⟨g1, g2, g3, g4⟩ := h4; refine ⟨hp b g1, g2, g3, ?_⟩
   by_cases RA : A.md = .sh ∧ A.r.dN = false
   · exact (bm.sh RA.1).2 fun i x hx => cn.plain _ _ _ _ RA.2 ((bm.sh RA.1).1 g4 i x hx)
   · refine g4.go (fun hm => ?_) rfl (fun _ k hk => ⟨rfl, hp k hk⟩); rcases ho with ho | ho
     · exact ⟨Nat.le_refl _, fun _ _ _ => rfl, fun b _ h => ho b h⟩
     · rw [hm] at ho; simp [Md.is] at ho; exact absurd ⟨hm, ho⟩ RA
theorem bc.pass {c c' : Cz} {w : World} {f : Nat → Lb} (hp : ∀ b j, c.own b = some (f j) → c'.own b = some (f j)) : (os : List OV) → ((∀ b, c.ok b → c'.ok b) ∨ os.all OV.plain = true) → (j : Nat) → (vs : List Value) → bc c w f j os vs → bc c' w f j os vs
 | [], _, _, _, h => h
 | .int k n :: os, ho, j, vs, h => by
   obtain ⟨l, h1, h2⟩ := h; exact ⟨l, h1, bc.pass hp os (ho.imp id fun h => by simp at h; simpa using h.2) (j + 1) l h2⟩
 | .bool k :: os, ho, j, vs, h => by
   obtain ⟨l, h1, h2⟩ := h; exact ⟨l, h1, bc.pass hp os (ho.imp id fun h => by simp at h; simpa using h.2) (j + 1) l h2⟩
 | .str k :: os, ho, j, vs, h => by
   obtain ⟨l, h1, h2⟩ := h; exact ⟨l, h1, bc.pass hp os (ho.imp id fun h => by simp at h; simpa using h.2) (j + 1) l h2⟩
 | .dD :: os, ho, j, vs, h => by
   obtain ⟨l, h1, h2⟩ := h; exact ⟨l, h1, bc.pass hp os (ho.imp id fun h => by simp at h; simpa using h.2) (j + 1) l h2⟩
 | .shr r xs :: os, ho, j, vs, h => by
   obtain ⟨v, l, h1, h2, h3⟩ := h; refine ⟨v, l, h1, ?_, bc.pass hp os (ho.imp id fun h => by simp at h; simpa using h.2) (j + 1) l h3⟩; rcases ho with ho | ho
   · exact bH.stays ⟨Nat.le_refl _, fun _ _ _ => rfl, fun b _ h => ho b h⟩ _ _ _ h2
   · simp [OV.plain] at ho
 | .lf r xs :: os, ho, j, vs, h => by
   obtain ⟨v, l, h1, h2, h3⟩ := h; refine ⟨v, l, h1, ?_, bc.pass hp os (ho.imp id fun h => by simp at h; simpa using h.2) (j + 1) l h3⟩; rcases ho with ho | ho
   · exact h2.stays ⟨Nat.le_refl _, fun _ _ _ => rfl, fun b _ h => ho b h⟩
   · simp [OV.plain] at ho
 | .fn g rs xs :: os, ho, j, vs, h => by
   obtain ⟨v, l, h1, h2, h3⟩ := h; refine ⟨v, l, h1, ?_, bc.pass hp os (ho.imp id fun h => by simp at h; simpa using h.2) (j + 1) l h3⟩; rcases ho with ho | ho
   · exact h2.stays ⟨Nat.le_refl _, fun _ _ _ => rfl, fun b _ h => ho b h⟩
   · simp [OV.plain] at ho
 | .own A :: os, ho, j, vs, h => by
   obtain ⟨v, l, h1, ⟨lc, h2⟩, h3⟩ := h; refine ⟨v, l, h1, ⟨lc, h2.pass (fun b => hp b j) (ho.imp id fun h => ?_)⟩, bc.pass hp os (ho.imp id fun h => by simp at h; simpa using h.2) (j + 1) l h3⟩; rw [List.all_cons, Bool.and_eq_true] at h; exact h.1
theorem Fe.pass {c c' : Cz} {w : World} {i : Nat} {os : List OV} {v : Value} (hb : ∀ b, c.own b = some (.sE i) → c'.own b = some (.sE i)) (hp : ∀ b j, c.own b = some (.bG i j) → c'.own b = some (.bG i j)) (ho : (∀ b, c.ok b → c'.ok b) ∨ os.all OV.plain = true) (h : Fe c w i os v) : Fe c' w i os v := by
 obtain ⟨nB, vs, ty, h1, h2, h3, h4⟩ := h; exact ⟨nB, vs, ty, h1, hb _ h2, h3, bc.pass hp os ho 0 _ h4⟩
theorem lg.pass {c c' : Cz} {w : World} (hp : ∀ b j, c.own b = some (.il j) → c'.own b = some (.il j)) : (rs : List RV) → ((∀ b, c.ok b → c'.ok b) ∨ rs.all (fun o => o.vp.all OV.plain) = true) → (j : Nat) → (vs : List Value) → lg c w j rs vs → lg c' w j rs vs
 | [], _, _, _, h => h
 | .one o :: rs, ho, j, vs, h => by
   obtain ⟨v, l, h1, h2, h3⟩ := h; exact ⟨v, l, h1, bc.pass hp [o] (ho.imp id fun h => by simp [RV.vp] at h; simpa using h.1) _ _ h2, lg.pass hp rs (ho.imp id fun h => by simp at h; simpa using h.2) _ _ h3⟩
 | .agg os :: rs, ho, j, vs, h => by
   obtain ⟨v, l, h1, h2, h3⟩ := h; exact ⟨v, l, h1, bc.pass hp os (ho.imp id fun h => by simp [RV.vp] at h; simpa using h.1) _ _ h2, lg.pass hp rs (ho.imp id fun h => by simp at h; simpa using h.2) _ _ h3⟩
 | .ptr os :: rs, ho, j, vs, h => by
   obtain ⟨v, l, h1, ⟨nB, us, ty, g1, g2, g3, g4⟩, h3⟩ := h; exact ⟨v, l, h1, ⟨nB, us, ty, g1, hp _ _ g2, g3, bc.pass hp os (ho.imp id fun h => by simp [RV.vp] at h; simpa using h.1.2) _ _ g4⟩, lg.pass hp rs (ho.imp id fun h => by simp at h; simpa using h.2) _ _ h3⟩
theorem qJ.pass {c c' : Cz} {w : World} (hp : ∀ b j, c.own b = some (.il j) → c'.own b = some (.il j)) {rs : List RV} (ho : (∀ b, c.ok b → c'.ok b) ∨ rs.all (fun o => o.vp.all OV.plain) = true) {v : Value} (h : qJ c w rs v) : qJ c' w rs v := by
 rcases h with ⟨r, h1, h2⟩ | ⟨h1, vs, h2, h3⟩
 · subst h1; exact .inl ⟨r, rfl, lg.pass hp _ ho _ _ h2⟩
 · exact .inr ⟨h1, vs, h2, lg.pass hp _ ho _ _ h3⟩
theorem Lq.pass {c c' : Cz} {w : World} {i : Nat} {lc : Nat → Loc} {os : List OV} {us : List Value} {As : List (Option gP)} (hp : ∀ b j, c.own b = some (.bG i j) → c'.own b = some (.bG i j)) (ho : (∀ b, c.ok b → c'.ok b) ∨ XV.plain (.bB As) = true) (h : Lq c w i lc os us As) : Lq c' w i lc os us As := by
 intro j A hA; obtain ⟨B, u, h1, h2, h3, h4, h5⟩ := h j A hA; refine ⟨B, u, h1, h2, h3, h4, h5.pass (fun b => hp b j) (ho.imp id fun h => ?_)⟩; have hm : some B ∈ As := by rw [fL] at h1; exact List.mem_of_getElem? h1
 have := List.all_eq_true.1 h _ hm; simpa using this
theorem iq.pass {c c' : Cz} {w : World} {lc : Nat → Nat → Loc} : (as : List AV) → (i : Nat) → (hb : ∀ b k, i ≤ k → c.own b = some (.sE k) → c'.own b = some (.sE k)) → (hp : ∀ b k j, i ≤ k → c.own b = some (.bG k j) → c'.own b = some (.bG k j)) → (vs : List Value) → (xs : List XV) → ((∀ b, c.ok b → c'.ok b) ∨ xs.all XV.plain = true) → iq c w lc i as vs xs → iq c' w lc i as vs xs
 | [], _, _, _, _, _, _, h => h
 | _ :: _, _, _, _, [], _, _, h => h.elim
 | .val _ _ :: as, i, hb, hp, _ :: vs, xs, ho, h => iq.pass as (i + 1) (fun b k hk => hb b k (by omega)) (fun b k j hk => hp b k j (by omega)) vs xs ho h
 | .io A :: as, i, hb, hp, v :: vs, xs, ho, h => by
   obtain ⟨B, l, h1, h2, h3, h4, h5⟩ := h; subst h1; refine ⟨B, l, rfl, h2, h3, h4.pass (fun b => hp b i 0 (Nat.le_refl _)) (ho.imp id fun h => by rw [List.all_cons, Bool.and_eq_true] at h; exact h.1), iq.pass as (i + 1) (fun b k hk => hb b k (by omega)) (fun b k j hk => hp b k j (by omega)) vs l (ho.imp id fun h => by simp at h; simpa using h.2) h5⟩
 | .bB _ :: as, i, hb, hp, v :: vs, xs, ho, h => by
   obtain ⟨As, l, h1, ⟨us, h2, h3⟩, h4⟩ := h; subst h1; refine ⟨As, l, rfl, ⟨us, h2, h3.pass (fun b j => hp b i j (Nat.le_refl _)) (ho.imp id fun h => by rw [List.all_cons, Bool.and_eq_true] at h; exact h.1)⟩, iq.pass as (i + 1) (fun b k hk => hb b k (by omega)) (fun b k j hk => hp b k j (by omega)) vs l (ho.imp id fun h => by rw [List.all_cons, Bool.and_eq_true] at h; exact h.2) h4⟩
 | .box _ :: as, i, hb, hp, v :: vs, xs, ho, h => by
   obtain ⟨os, l, h1, h2, h3⟩ := h; subst h1; refine ⟨os, l, rfl, h2.pass (fun b => hb b i (Nat.le_refl _)) (fun b j => hp b i j (Nat.le_refl _)) (ho.imp id fun h => by simp [XV.plain] at h; simpa using h.1), iq.pass as (i + 1) (fun b k hk => hb b k (by omega)) (fun b k j hk => hp b k j (by omega)) vs l (ho.imp id fun h => by simp at h; simpa using h.2) h3⟩
end Go.TM
namespace Go.TM
open Go Go.RowKit
def Cz.map (c : Cz) (ρ : Lb → Option Lb) : Cz := { bx := c.bx, lc := c.lc, own := fun b => (c.own b).bind ρ }
theorem Cz.sr {c : Cz} {ρ : Lb → Option Lb} {b : Nat} (h : c.ok b) : (c.map ρ).ok b := by
 unfold Cz.ok Cz.map at *; simp [h]
theorem Cz.map_some {c : Cz} {ρ : Lb → Option Lb} {b : Nat} {l : Lb} (h : (c.map ρ).own b = some l) : ∃ k, c.own b = some k ∧ ρ k = some l := by
 unfold Cz.map at h; exact Option.bind_eq_some_iff.1 h
theorem Cz.j4 {c : Cz} {ρ : Lb → Option Lb} {b : Nat} {l : Lb} (h : c.own b = some l) : (c.map ρ).own b = ρ l := by
 unfold Cz.map; simp [h]
theorem bm.map {c : Cz} {w : World} {l l' : Lb} {A : gP} {b off : Nat} (h : bm c w l A b off) {ρ : Lb → Option Lb} (hρ : ρ l = some l') : bm (c.map ρ) w l' A b off :=
 h.go (fun _ => ⟨Nat.le_refl _, fun _ _ _ => rfl, fun b _ hb => Cz.sr hb⟩) rfl (fun _ _ hk => ⟨rfl, (Cz.j4 hk).trans hρ⟩)
theorem OS {c : Cz} {w : World} {s j : Nat} {A : gP} (h : bI c w s j A) (ho : A.own = true) {vw : View} {u : Value} (h1 : u.oneCell' = true) (hu : je (c.lc s j) A.r.width vw.lo (vw.app A.xs).length u)
   {ρ : Lb → Option Lb} {l : Lb} (hρ : ρ (.sp s j) = some l) (Es : A.md.is .sh = true ∨ vw.isFull = true) : ∃ lc, OwnAt (c.map ρ) w l lc { A with xs := vw.app A.xs } u := by
 cases hl : c.lc s j with
 | nil =>
   unfold je at hu; rw [hl] at hu; exact ⟨.nil, h1, hu, ho, List.length_eq_zero_iff.1 hu.2⟩
 | «at» b off cap =>
   unfold je at hu; rw [hl] at hu; obtain ⟨a, k, rfl, hk, yX, ha⟩ := hu; unfold bI at h; rw [hl] at h; obtain ⟨h0, _, ⟨cur, ty, h3, h4⟩, h5⟩ := h; rw [ho] at h0; refine ⟨.at b (off + vw.lo * A.r.width) k, h1, ⟨a, k, rfl, hk, by omega, by simpa using ha⟩, ho, (Cz.j4 h0).trans hρ, hk, ⟨cur, ty, h3, ?_⟩, ?_⟩
   · have : (vw.lo + k) * A.r.width ≤ cap * A.r.width := Nat.mul_le_mul_right _ yX; rw [Nat.add_mul] at this; show off + vw.lo * A.r.width + k * A.r.width ≤ cur.size; omega
   · have hmm : A.md = .sh ∨ A.md ≠ .sh := Classical.em _; rcases hmm with hm | hm
     · refine bm.OC hm fun i x hi => ?_
       have := (bm.sh hm).1 h5 _ x (View.wK vw A.xs hi); have e : off + vw.lo * A.r.width + i * A.r.width = off + (vw.lo + i) * A.r.width := by rw [Nat.add_mul]; omega
       rw [e]; exact cn.stays ⟨Nat.le_refl _, fun _ _ _ => rfl, fun b _ hb => Cz.sr hb⟩ _ _ _ x rfl this
     · have hf : vw = .full := by
         rcases Es with Es | Es
         · exact absurd (Md.lS.1 Es) hm
         · cases vw with
           | full => rfl
           | «from» _ => cases Es
           | sub _ _ => cases Es
       subst hf; have := h5.go (c' := c.map ρ) (w' := w) (l' := l) (fun e => absurd e hm) rfl (fun _ k hk => ⟨rfl, (Cz.j4 hk).trans hρ⟩); simpa [View.lo, View.app] using this
theorem eH.Tg {c : Cz} {st : St} {w : World} {x : CV} {cs : List CV} {vs : List Value} (h : eH c st w (x :: cs) vs) : ∃ v l, vs = v :: l ∧ jw c st w x v ∧ eH c st w cs l := by
 obtain ⟨h1, h2⟩ := h
 cases vs with
 | nil => simp at h1
 | cons v l => exact ⟨v, l, rfl, h2 0 x v rfl rfl, by simpa using h1, fun i y u hy hu => h2 (i + 1) y u (by simpa using hy) (by simpa using hu)⟩
theorem lX {α : Type} (l m : List α) (n : Nat) : nth (l ++ m) n = if n < l.length then nth l n else nth m (n - l.length) := by
 simp only [fL]
 by_cases h : n < l.length
 · rw [if_pos h, List.getElem?_append_left h]
 · rw [if_neg h, List.getElem?_append_right (by omega)]
theorem wO {w0 : World} {mu : Mu} {c : Cz} {st : St} {a : Act} {w : World} (h : Rel w0 mu c st a w) {s j g : Nat} {A : gP} (hA : aQ st s j g = some A) : bI c w s j A := by
 obtain ⟨sl, h1, _, h3⟩ := ba hA; exact h.aK s j sl A h1 h3
theorem Ar {w : World} {P : List Nat → Nat → Prop} {q : RT} {ys : List (ar q)} {b : Nat} : (r : RT) → (p : List Nat) → (k0 off : Nat) → (x : ar r) → (k : Nat) → fN w P r p k0 b off x → pL r x k = some ⟨q, ys⟩ → ∃ v, w.cell? ⟨b, off + k, none⟩ = some v ∧ de w P (.sl q) (p ++ [k0 + k]) v ys
 | .nil, _, _, _, _, _, _, h => by simp [pL] at h
 | .cons t r, p, k0, off, x, 0, hd, h => by
   unfold fN at hd; obtain ⟨⟨v, h1, h2⟩, _⟩ := hd
   cases t with
   | sl q' =>
     have h : some (⟨q', x.1⟩ : (q : RT) × List (ar q)) = some ⟨q, ys⟩ := h; injection h with h; injection h with e1 e2; subst e1; have e2 := eq_of_heq e2; subst e2; exact ⟨v, h1, h2⟩
   | int _ => simp [pL] at h
   | bool => simp [pL] at h
   | str => simp [pL] at h
 | .cons t r, p, k0, off, x, k + 1, hd, h => by
   unfold fN at hd; have h' : pL r x.2 k = some ⟨q, ys⟩ := by cases t <;> exact h
   obtain ⟨v, h1, h2⟩ := Ar r p (k0 + 1) (off + 1) x.2 k hd.2 h'; exact ⟨v, by rw [show off + (k + 1) = off + 1 + k by omega]; exact h1, by rw [show k0 + (k + 1) = k0 + 1 + k by omega]; exact h2⟩
theorem HQ {c : Cz} {st : St} {w : World} {a j g e i k : Nat} {q : RT} {ys : List (ar q)} {v : Value} {A : gP} (hx : jw c st w (.oU a j g e i k q ys) v) (hA : aQ st a j g = some A) (he : lT st a = e) (ha : bI c w a j A) :
   ∃ (gg : Nat → List Nat) (b o cap : Nat), c.lc a j = .at b o cap ∧ A.md = .dp ∧ gg b = [] ∧ w.cell? ⟨b, o + i * A.r.width + k, none⟩ = some v ∧ (∀ (i : Nat) x, A.xs[i]? = some x → fN w (fun p k => c.own k = some (.sp a j) ∧ gg k = p) A.r [i] 0 b (o + i * A.r.width) x) ∧
     (∃ x, A.xs[i]? = some x ∧ pL A.r x k = some ⟨q, ys⟩) ∧ de w (fun p k => c.own k = some (.sp a j) ∧ gg k = p) (.sl q) [i, k] v ys := by
 obtain ⟨_, _, _, h⟩ := hx; obtain ⟨hm, ⟨x, xh, ZG⟩, b, o, cap, gV, sI⟩ := h A hA he; unfold bI at ha; rw [gV] at ha; obtain ⟨_, _, _, eV⟩ := ha; unfold bm at eV; rw [hm] at eV; obtain ⟨gg, Li, eV⟩ := eV; obtain ⟨v', h1, h2⟩ := Ar A.r [i] 0 _ x k (eV i x xh) ZG; rw [sI] at h1
 cases h1
 exact ⟨gg, b, o, cap, gV, hm, Li, sI, eV, ⟨x, xh, ZG⟩, by simpa using h2⟩
theorem vI {st : St} {own : Bool} {q : RT} {y : ar q} {off : Nat} {o : OV} {u : Option Lb} {r : List (Nat × Nat)} (h : fy st own (.lf q y off) = some (o, u, r)) : o = .lf q [y] ∧ u = none ∧ r = [] := by
 unfold fy at h; obtain ⟨_, h⟩ := aH h; simp only [Option.some.injEq, Prod.mk.injEq] at h; exact ⟨h.1.symm, h.2.1.symm, h.2.2.symm⟩
theorem sL {st : St} {own : Bool} {q : RT} {y : List (ar q)} {off : Nat} {o : OV} {u : Option Lb} {r : List (Nat × Nat)} (h : fy st own (.sn q y off) = some (o, u, r)) : o = .lf q y ∧ u = none ∧ r = [] := by
 unfold fy at h; obtain ⟨_, h⟩ := aH h; simp only [Option.some.injEq, Prod.mk.injEq] at h; exact ⟨h.1.symm, h.2.1.symm, h.2.2.symm⟩
theorem Lr {w0 : World} {mu : Mu} {c : Cz} {st : St} {a : Act} {w : World} (h : Rel w0 mu c st a w) {own : Bool} {ρ : Lb → Option Lb} {f : Nat → Lb} {j : Nat} {x : CV} {v : Value} (hx : jw c st w x v) {o : OV} {u : Option Lb} {r : List (Nat × Nat)}
   (hc : fy st own x = some (o, u, r)) (hu : ∀ l, u = some l → ρ l = some (f j)) (hr : ∀ p ∈ r, ρ (.sp p.1 p.2) = none) {os : List OV} {l : List Value} (hh : bc (c.map ρ) w f (j + 1) os l) : bc (c.map ρ) w f j (o :: os) (v :: l) := by
 cases x with
 | int k n =>
   simp only [fy, Option.some.injEq, Prod.mk.injEq] at hc; obtain ⟨rfl, rfl, _⟩ := hc; have e : v = .int k n := hx; exact ⟨l, by rw [e], hh⟩
 | bool n =>
   simp only [fy, Option.some.injEq, Prod.mk.injEq] at hc; obtain ⟨rfl, rfl, _⟩ := hc; have e : v = .bool n := hx; exact ⟨l, by rw [e], hh⟩
 | str n =>
   simp only [fy, Option.some.injEq, Prod.mk.injEq] at hc; obtain ⟨rfl, rfl, _⟩ := hc; have e : v = .string n := hx; exact ⟨l, by rw [e], hh⟩
 | dD =>
   simp only [fy, Option.some.injEq, Prod.mk.injEq] at hc; obtain ⟨rfl, rfl, _⟩ := hc; have e : v = .slice none 0 0 := hx; exact ⟨l, by rw [e], hh⟩
 | shr q xs =>
   simp only [fy, Option.some.injEq, Prod.mk.injEq] at hc; obtain ⟨rfl, rfl, _⟩ := hc; have e : bH w c.ok (.sl q) v xs := hx; exact ⟨v, l, rfl, bH.stays ⟨Nat.le_refl _, fun _ _ _ => rfl, fun b _ hb => Cz.sr hb⟩ _ _ _ e, hh⟩
 | nn q xs =>
   simp only [fy, Option.some.injEq, Prod.mk.injEq] at hc; obtain ⟨rfl, rfl, _⟩ := hc; have e : bH w c.ok (.sl q) v xs := hx.1; exact ⟨v, l, rfl, bH.stays ⟨Nat.le_refl _, fun _ _ _ => rfl, fun b _ hb => Cz.sr hb⟩ _ _ _ e, hh⟩
 | ref s k g vw =>
   unfold fy at hc; simp only at hc
   cases hA : aQ st s k g with
   | none => simp [hA] at hc
   | some A =>
     simp only [hA] at hc; have ha := wO h hA; have hs := hx.2.2 A hA; have ZH : A.md.E2 = false := by cases hm : A.md <;> simp_all [Md.E2]
     have xi := ZH; simp only [ZH, cond_false] at hc
     cases hb : (own && A.own && (A.md.is .sh || vw.isFull)) with
     | true =>
       simp only [hb, cond_true, Option.some.injEq, Prod.mk.injEq] at hc; obtain ⟨rfl, rfl, rfl⟩ := hc; rw [Bool.and_eq_true, Bool.and_eq_true, Bool.or_eq_true] at hb; obtain ⟨lc, g1⟩ := OS ha hb.1.2 hx.1 hs (hu _ rfl) hb.2; exact ⟨v, l, rfl, ⟨lc, g1⟩, hh⟩
     | false =>
       simp only [hb, cond_false, Option.some.injEq, Prod.mk.injEq] at hc; obtain ⟨rfl, rfl, rfl⟩ := hc; refine ⟨v, l, rfl, ?_, hh⟩; refine yW ha hs (fun b hb => Cz.sr hb) (fun b _ hk => ?_) xi; exact (Cz.j4 hk).trans (hr (s, k) (by simp))
 | oU s k g e i kk q ys =>
   unfold fy at hc; simp only at hc
   cases hA : aQ st s k g with
   | none => simp [hA] at hc
   | some A =>
     simp only [hA] at hc; obtain ⟨h1, hc⟩ := aH hc; rw [Bool.and_eq_true] at h1; simp only [Option.some.injEq, Prod.mk.injEq] at hc; obtain ⟨rfl, rfl, rfl⟩ := hc; obtain ⟨gg, b, o, cap, _, _, _, _, _, _, hd⟩ := HQ hx hA (Nat.eq_of_beq_eq_true h1.2).symm (wO h hA); exact ⟨v, l, rfl, de.rep (fun p kb hk => (Cz.j4 hk.1).trans (hr (s, k) (by simp))) _ _ _ _ hd, hh⟩
 | bad => simp [fy] at hc
 | Jr => simp [fy] at hc
 | ptr _ _ _ => simp [fy] at hc
 | Hs _ _ _ _ _ => simp [fy] at hc
 | lf q y off =>
   unfold fy at hc; obtain ⟨h1, hc⟩ := aH hc; have h1 := Nat.eq_of_beq_eq_true h1; subst h1; simp only [Option.some.injEq, Prod.mk.injEq] at hc; obtain ⟨rfl, rfl, _⟩ := hc; obtain ⟨b, o, e1, e2, e3, e4⟩ := hx; refine ⟨v, l, rfl, ⟨b, o, e1, e2, Cz.sr e3, fun z hz => ?_⟩, hh⟩; simp at hz; subst hz; exact cn.stays ⟨Nat.le_refl _, fun _ _ _ => rfl, fun b _ hb => Cz.sr hb⟩ _ _ _ _ rfl e4
 | sn q ys off =>
   unfold fy at hc; obtain ⟨h1, hc⟩ := aH hc; have h1 := Nat.eq_of_beq_eq_true h1; subst h1; simp only [Option.some.injEq, Prod.mk.injEq] at hc; obtain ⟨rfl, rfl, _⟩ := hc; obtain ⟨b, o, e1, e2, e3, e4⟩ := hx; exact ⟨v, l, rfl, ⟨b, o, e1, e2, Cz.sr e3, fun z hz => cn.stays ⟨Nat.le_refl _, fun _ _ _ => rfl, fun b _ hb => Cz.sr hb⟩ _ _ _ _ rfl (e4 z hz)⟩, hh⟩
 | fn g rs ys =>
   simp only [fy, Option.some.injEq, Prod.mk.injEq] at hc; obtain ⟨rfl, rfl, _⟩ := hc; have hx : FnAt w c.ok g rs v ys := hx; exact ⟨v, l, rfl, hx.stays ⟨Nat.le_refl _, fun _ _ _ => rfl, fun b _ hb => Cz.sr hb⟩, hh⟩
theorem Ls {w0 : World} {mu : Mu} {c : Cz} {st : St} {a : Act} {w : World} (h : Rel w0 mu c st a w) {own : Bool} {ρ : Lb → Option Lb} {f : Nat → Lb} : (cs : List CV) → (vs : List Value) → (j : Nat) → eH c st w cs vs → {os : List OV} → {u : List (Option Lb)} → {r : List (Nat × Nat)} →
   eF st own cs = some (os, u, r) → (∀ k l, nth u k = some (some l) → ρ l = some (f (j + k))) → (∀ p ∈ r, ρ (.sp p.1 p.2) = none) → bc (c.map ρ) w f j os vs
 | [], vs, j, hl, os, u, r, he, _, _ => by
   simp only [eF, Option.some.injEq, Prod.mk.injEq] at he; obtain ⟨rfl, rfl, rfl⟩ := he; have := hl.1; simp at this; exact List.length_eq_zero_iff.1 this.symm
 | x :: cs, vs, j, hl, os, u, r, he, hu, hr => by
   obtain ⟨v, l, rfl, hx, xr⟩ := hl.Tg; unfold eF at he
   cases hc : fy st own x with
   | none => simp [hc] at he
   | some p =>
     obtain ⟨o, u1, r1⟩ := p
     cases hq : eF st own cs with
     | none => simp [hc, hq] at he
     | some q =>
       obtain ⟨zn, us, rs⟩ := q; simp only [hc, hq, Option.some.injEq, Prod.mk.injEq] at he; obtain ⟨rfl, rfl, rfl⟩ := he; refine Lr h hx hc (fun l hl => hu 0 l (by rw [hl]; rfl)) (fun p hp => hr p (List.mem_append_left _ hp)) ?_; refine Ls h cs l (j + 1) xr hq (fun k' l' hk => ?_) (fun p hp => hr p (List.mem_append_right _ hp)); have := hu (k' + 1) l' hk
       rwa [show j + (k' + 1) = j + 1 + k' by omega] at this
end Go.TM
namespace Go.TM
open Go Go.RowKit
def Lb.real : Lb → Bool
 | .box _ => true
 | .sp _ _ => true
 | _ => false
theorem Lb.zo {x y : Lb} (hx : x.real = true) : Lb.same x y = true ↔ x = y := by
 cases x <;> cases y <;> simp [Lb.same, Lb.real] at hx ⊢
theorem oa : (l : List Lb) → (∀ x ∈ l, x.real = true) → tl l = true → l.Nodup
 | [], _, _ => List.nodup_nil
 | x :: l, hr, h => by
   simp only [tl, Bool.and_eq_true, List.all_eq_true] at h; refine List.nodup_cons.2 ⟨fun hm => ?_, oa l (fun y hy => hr y (List.mem_cons_of_mem _ hy)) h.2⟩; have := h.1 x hm; rw [(Lb.zo (hr x List.mem_cons_self)).2 rfl] at this
   cases this
noncomputable def look : List (Lb × Lb) → Lb → Option Lb
 | [], _ => none
 | (x, y) :: t, l => have := Classical.propDecidable (x = l); if x = l then some y else look t l
theorem zp : (t : List (Lb × Lb)) → (t.map (·.1)).Nodup → {p : Lb × Lb} → p ∈ t → look t p.1 = some p.2
 | [], _, _, h => by simp at h
 | (x, y) :: t, hn, p, h => by
   unfold look; simp only [List.map_cons, List.nodup_cons] at hn
   by_cases e : x = p.1
   · rw [if_pos e]; rcases List.mem_cons.1 h with rfl | h
     · rfl
     · exact absurd (List.mem_map.2 ⟨p, h, e.symm⟩) hn.1
   · rw [if_neg e]; rcases List.mem_cons.1 h with rfl | h
     · exact absurd rfl e
     · exact zp t hn.2 h
theorem wP : (t : List (Lb × Lb)) → {l y : Lb} → look t l = some y → (l, y) ∈ t
 | [], _, _, h => by simp [look] at h
 | (x, z) :: t, l, y, h => by
   unfold look at h
   by_cases e : x = l
   · rw [if_pos e] at h
     cases h
     subst e; exact List.mem_cons_self
   · rw [if_neg e] at h; exact List.mem_cons_of_mem _ (wP t h)
def zq (f : Nat → Lb) : (j : Nat) → List (Option Lb) → List (Lb × Lb)
 | _, [] => []
 | j, some l :: ls => (l, f j) :: zq f (j + 1) ls
 | j, none :: ls => zq f (j + 1) ls
theorem zr (f : Nat → Lb) : (j : Nat) → (ls : List (Option Lb)) → (zq f j ls).map (·.1) = bF ls
 | _, [] => rfl
 | j, some l :: ls => by simp [zq, bF, zr f (j + 1) ls]
 | j, none :: ls => by simp [zq, bF, zr f (j + 1) ls]
theorem C1 (f : Nat → Lb) : (j : Nat) → (ls : List (Option Lb)) → ∀ p ∈ zq f j ls, ∃ k, p.2 = f k
 | _, [], p, h => by simp [zq] at h
 | j, some l :: ls, p, h => by
   simp only [zq, List.mem_cons] at h; rcases h with rfl | h
   · exact ⟨j, rfl⟩
   · exact C1 f (j + 1) ls p h
 | j, none :: ls, p, h => C1 f (j + 1) ls p h
theorem vJ (f : Nat → Lb) : (j : Nat) → (ls : List (Option Lb)) → ∀ k l, nth ls k = some (some l) → (l, f (j + k)) ∈ zq f j ls
 | _, [], k, l, h => by simp at h
 | j, x :: ls, 0, l, h => by
   simp only [nth, Option.some.injEq] at h; subst h; exact List.mem_cons_self
 | j, x :: ls, k + 1, l, h => by
   have := vJ f (j + 1) ls k l h; rw [show j + (k + 1) = j + 1 + k by omega]
   cases x with
   | none => exact this
   | some x => exact List.mem_cons_of_mem _ this
theorem gk {l : Lb} : {ls : List (Option Lb)} → l ∈ bF ls ↔ some l ∈ ls
 | [] => by simp [bF]
 | none :: ls => by simp [bF, gk (ls := ls)]
 | some x :: ls => by simp [bF, gk (ls := ls)]
def JP (c : Cz) : Option CV → Loc
 | some (.ref a j _ _) => c.lc a j
 | _ => .nil
def Bw (c : Cz) : V → Nat → Loc
 | .one (.ref a j _ _) => fun _ => c.lc a j
 | .agg cs => fun k => JP c cs[k]?
 | _ => fun _ => .nil
theorem Lt {st : St} {own : Bool} : (cs : List CV) → {os : List OV} → {u : List (Option Lb)} → {r : List (Nat × Nat)} → eF st own cs = some (os, u, r) → ∀ (k : Nat) (o : OV), os[k]? = some o → ∃ x u' r', cs[k]? = some x ∧ fy st own x = some (o, u', r') ∧ nth u k = some u'
 | [], _, _, _, h => by
   simp only [eF, Option.some.injEq, Prod.mk.injEq] at h; obtain ⟨rfl, rfl, _⟩ := h; intro k o hk; simp at hk
 | x :: cs, os, u, r, h => by
   unfold eF at h
   cases hc : fy st own x with
   | none => simp [hc] at h
   | some p =>
     obtain ⟨o, u1, r1⟩ := p
     cases hq : eF st own cs with
     | none => simp [hc, hq] at h
     | some q =>
       obtain ⟨zn, us, rs⟩ := q; simp only [hc, hq, Option.some.injEq, Prod.mk.injEq] at h; obtain ⟨rfl, rfl, _⟩ := h; intro k o' hk
       cases k with
       | zero =>
         simp only [List.getElem?_cons_zero, Option.some.injEq] at hk; subst hk; exact ⟨x, u1, r1, rfl, hc, rfl⟩
       | succ k =>
         obtain ⟨y, u', r', h1, h2, h3⟩ := Lt cs hq k o' (by simpa using hk); exact ⟨y, u', r', by simpa using h1, h2, h3⟩
theorem OT {st : St} {own : Bool} {x : CV} {A : gP} {u : Option Lb} {r : List (Nat × Nat)} (h : fy st own x = some (.own A, u, r)) : ∃ a j g w B, x = .ref a j g w ∧ aQ st a j g = some B ∧ A = { B with xs := w.app B.xs } ∧ u = some (.sp a j) ∧ B.own = true := by
 cases x with
 | ref a j g w =>
   unfold fy at h; simp only at h
   cases hA : aQ st a j g with
   | none => simp [hA] at h
   | some B =>
     simp only [hA] at h
     cases hm : B.md.E2 with
     | true => simp [hm] at h
     | false =>
     simp only [hm, cond_false] at h
     cases hb : (own && B.own && (B.md.is .sh || w.isFull)) with
     | false => simp [hb] at h
     | true =>
       simp only [hb, cond_true, Option.some.injEq, Prod.mk.injEq] at h; obtain ⟨h1, rfl, _⟩ := h; injection h1 with h1; rw [Bool.and_eq_true, Bool.and_eq_true] at hb; exact ⟨a, j, g, w, B, rfl, hA, h1.symm, rfl, hb.1.2⟩
 | oU a j g e i k q ys =>
   unfold fy at h; simp only at h
   cases hA : aQ st a j g with
   | none => simp [hA] at h
   | some B =>
     simp only [hA] at h; obtain ⟨_, h⟩ := aH h; simp at h
 | lf q y off => exact absurd (vI h).1 (by simp)
 | sn q y off => exact absurd (sL h).1 (by simp)
 | _ => simp [fy] at h
theorem Mv {st : St} {own : Bool} {x : CV} {u : Option Lb} {r : List (Nat × Nat)} (h : fy st own x = some (.dD, u, r)) : x = .dD := by
 cases x with
 | ref a j g w =>
   unfold fy at h; simp only at h
   cases hA : aQ st a j g with
   | none => simp [hA] at h
   | some B =>
     simp only [hA] at h
     cases hm : B.md.E2 with
     | true => simp [hm] at h
     | false =>
     simp only [hm, cond_false] at h
     cases hb : (own && B.own && (B.md.is .sh || w.isFull)) <;> simp [hb] at h
 | oU a j g e i k q ys =>
   unfold fy at h; simp only at h
   cases hA : aQ st a j g with
   | none => simp [hA] at h
   | some B =>
     simp only [hA] at h; obtain ⟨_, h⟩ := aH h; simp at h
 | dD => rfl
 | lf q y off => exact absurd (vI h).1 (by simp)
 | sn q y off => exact absurd (sL h).1 (by simp)
 | _ => simp [fy] at h
theorem Ff {st : St} {own : Bool} {x : CV} {o : OV} {u : Option Lb} {r : List (Nat × Nat)} (h : fy st own x = some (o, u, r)) : ∀ l, u = some l → ∃ s j, l = .sp s j := by
 cases x with
 | ref a j g w =>
   unfold fy at h; simp only at h
   cases hA : aQ st a j g with
   | none => simp [hA] at h
   | some A =>
     simp only [hA] at h
     cases hm : A.md.E2 with
     | true => simp [hm] at h
     | false =>
     simp only [hm, cond_false] at h
     cases hb : (own && A.own && (A.md.is .sh || w.isFull)) <;> simp only [hb, cond_true, cond_false, Option.some.injEq, Prod.mk.injEq] at h <;> obtain ⟨_, rfl, _⟩ := h <;> simp
 | oU a j g e i k q ys =>
   unfold fy at h; simp only at h
   cases hA : aQ st a j g with
   | none => simp [hA] at h
   | some B =>
     simp only [hA] at h; obtain ⟨_, h⟩ := aH h; simp only [Option.some.injEq, Prod.mk.injEq] at h; obtain ⟨_, rfl, _⟩ := h; simp
 | lf q y off => obtain ⟨_, rfl, _⟩ := vI h; simp
 | sn q y off => obtain ⟨_, rfl, _⟩ := sL h; simp
 | _ => simp [fy] at h <;> (try (obtain ⟨_, rfl, _⟩ := h; simp))
theorem wQ {st : St} {own : Bool} : (cs : List CV) → {os : List OV} → {u : List (Option Lb)} → {r : List (Nat × Nat)} → eF st own cs = some (os, u, r) → ∀ l ∈ bF u, ∃ s j, l = .sp s j
 | [], _, _, _, h => by
   simp only [eF, Option.some.injEq, Prod.mk.injEq] at h; obtain ⟨_, rfl, _⟩ := h; simp [bF]
 | x :: cs, os, u, r, h => by
   unfold eF at h
   cases hc : fy st own x with
   | none => simp [hc] at h
   | some p =>
     obtain ⟨o, u1, r1⟩ := p
     cases hq : eF st own cs with
     | none => simp [hc, hq] at h
     | some q =>
       obtain ⟨zn, us, rs⟩ := q; simp only [hc, hq, Option.some.injEq, Prod.mk.injEq] at h; obtain ⟨_, rfl, _⟩ := h; intro l hl; rw [gk] at hl; rcases List.mem_cons.1 hl with hl | hl
       · exact Ff hc l hl.symm
       · exact wQ cs hq l (gk.2 hl)
theorem Mw {st : St} {own : Bool} (cs : List CV) {os : List OV} {u : List (Option Lb)} {r : List (Nat × Nat)} (h : eF st own cs = some (os, u, r)) : ∀ l ∈ bF u, l.real = true := by
 intro l hl; obtain ⟨s, j, rfl⟩ := wQ cs h l hl; rfl
def jx (i : Nat) (av : AV) (bx : List Lb) (u : List (Option Lb)) : List (Lb × Lb) :=
 bx.map (fun l => (l, .sE i)) ++ zq (.bG i) 0 u
theorem lY (i : Nat) (av : AV) (bx : List Lb) (u : List (Option Lb)) : (jx i av bx u).map (·.1) = bx ++ bF u := by
 unfold jx; rw [List.map_append, zr, List.map_map]
 congr 1
 exact List.map_id bx
theorem lZ (i : Nat) (av : AV) (bx : List Lb) (u : List (Option Lb)) : ∀ p ∈ jx i av bx u, p.2.jV = true := by
 intro p hp; unfold jx at hp; rcases List.mem_append.1 hp with hp | hp
 · obtain ⟨l, _, rfl⟩ := List.mem_map.1 hp; rfl
 · obtain ⟨k, e⟩ := C1 _ _ _ p hp; rw [e]; rfl
theorem Mx {w0 : World} {mu : Mu} {c : Cz} {st : St} {a : Act} {w : World} (h : Rel w0 mu c st a w) {m : Pm} {v : V} {x : Value} (hx : dU c st w v x) {av : AV} {u q : List Lb} {r : List (Nat × Nat)} (he : dO st m v = some (av, u, q, r)) (i : Nat) :
   (∀ l ∈ u, l.real = true) ∧ (∀ l ∈ q, l ∈ u) ∧ ∃ tb : List (Lb × Lb), tb.map (·.1) = u ∧ (∀ p ∈ tb, p.2.jV = true) ∧ ∀ ρ : Lb → Option Lb, (∀ p ∈ tb, ρ p.1 = some p.2) → (∀ p ∈ r, ρ (.sp p.1 p.2) = none) → rT (c.map ρ) w i (Bw c v) av x := by
 have vals : ∀ (own : Bool) (cs : List CV) (os : List OV) (us : List (Option Lb)) (rs : List (Nat × Nat)) (vs : List Value), eH c st w cs vs → eF st own cs = some (os, us, rs) → (∀ l ∈ bF us, l.real = true) ∧
     ∀ ρ : Lb → Option Lb, (∀ p ∈ zq (.bG i) 0 us, ρ p.1 = some p.2) → (∀ p ∈ rs, ρ (.sp p.1 p.2) = none) → bc (c.map ρ) w (.bG i) 0 os vs := by
   intro own cs os us rs vs hl hq; refine ⟨Mw cs hq, fun ρ hp hr => Ls h cs vs 0 hl hq (fun k l hk => ?_) hr⟩; have := hp _ (vJ (.bG i) 0 us k l hk); simpa using this
 have single : ∀ (own : Bool) (cx : CV) (os : List OV) (us : List (Option Lb)) (rs : List (Nat × Nat)), jw c st w cx x → eF st own [cx] = some (os, us, rs) → (∀ l ∈ bF us, l.real = true) ∧ (∀ l ∈ bF us, l ∈ bF us) ∧
     ∃ tb : List (Lb × Lb), tb.map (·.1) = bF us ∧ (∀ p ∈ tb, p.2.jV = true) ∧ ∀ ρ : Lb → Option Lb, (∀ p ∈ tb, ρ p.1 = some p.2) → (∀ p ∈ rs, ρ (.sp p.1 p.2) = none) → rT (c.map ρ) w i (Bw c (.one cx)) (.val false os) x := by
   intro own cx os us rs hl hq; obtain ⟨g1, g2⟩ := vals own [cx] os us rs [x] ⟨rfl, fun k y z hy hz => by
     cases k with
     | zero => simp at hy hz; subst hy hz; exact hl
     | succ k => simp at hy⟩ hq
   exact ⟨g1, fun _ h => h, jx i (.val false os) [] us, lY _ _ _ _, lZ _ _ _ _, fun ρ hp hr => g2 ρ (fun p ku => hp p (by simpa [jx] using ku)) hr⟩
 cases v with
 | mz _ => simp [dO] at he
 | agg cs =>
   obtain ⟨vs, rfl, hl⟩ := hx; have other : (match eF st m.nz cs with | some (os, u, r) => some (AV.val true os, bF u, bF u, r) | none => none) = some (av, u, q, r) → (∀ l ∈ u, l.real = true) ∧ (∀ l ∈ q, l ∈ u) ∧
       ∃ tb : List (Lb × Lb), tb.map (·.1) = u ∧ (∀ p ∈ tb, p.2.jV = true) ∧ ∀ ρ : Lb → Option Lb, (∀ p ∈ tb, ρ p.1 = some p.2) → (∀ p ∈ r, ρ (.sp p.1 p.2) = none) → rT (c.map ρ) w i (Bw c (.agg cs)) av (.agg vs) := by
     intro he
     cases hq : eF st m.nz cs with
     | none => simp [hq] at he
     | some p =>
       obtain ⟨os, us, rs⟩ := p; simp only [hq, Option.some.injEq, Prod.mk.injEq] at he; obtain ⟨rfl, rfl, rfl, rfl⟩ := he; obtain ⟨g1, g2⟩ := vals _ _ _ _ _ _ hl hq; exact ⟨g1, fun _ h => h, jx i (.val true os) [] us, lY _ _ _ _, lZ _ _ _ _, fun ρ hp hr => ⟨vs, rfl, g2 ρ (fun p ku => hp p (by simpa [jx] using ku)) hr⟩⟩
   unfold dO at he
   cases m with
   | shr => exact other he
   | own => exact other he
   | pick _ => exact other he
   | io => exact other he
   | bB =>
     simp only at he
     cases hq : eF st true cs with
     | none => simp [hq] at he
     | some p =>
       obtain ⟨os, us, rs⟩ := p; simp only [hq] at he; obtain ⟨qK, xj⟩ := aH he; simp only [Option.some.injEq, Prod.mk.injEq] at xj; obtain ⟨rfl, rfl, rfl, rfl⟩ := xj; obtain ⟨g1, g2⟩ := vals _ _ _ _ _ _ hl hq; refine ⟨g1, by simp, jx i (.val true os) [] us, lY _ _ _ _, lZ _ _ _ _, fun ρ hp hr => ⟨vs, rfl, g2 ρ (fun p ku => hp p (by simpa [jx] using ku)) hr, fun j o x ho hxj => ?_⟩⟩; obtain ⟨cx, u', r', k1, k2, k3⟩ := Lt cs hq j o ho; show OR (c.map ρ) w i (fun k => JP c cs[k]?) j o x
       cases o with
       | dD =>
         have := Mv k2; subst this; show JP c cs[j]? = .nil; rw [k1]; rfl
       | own A =>
         obtain ⟨s, k, g, vw, B, rfl, hA, rfl, rfl, hB⟩ := OT k2; have zh : CV.ref s k g vw ∈ cs := List.mem_of_getElem? k1; have Es := List.all_eq_true.1 qK _ zh; have OU : vw = .full := by
           unfold Ou at Es; rw [Bool.and_eq_true] at Es
           cases vw with
           | full => rfl
           | «from» _ => cases Es.1
           | sub _ _ => cases Es.1
         subst OU; have hxr := hl.2 j _ _ k1 hxj; have hs := hxr.2.2 B hA; have ha := wO h hA; have hρ : ρ (.sp s k) = some (.bG i j) := hp (.sp s k, .bG i j) (by
           have := vJ (.bG i) 0 us j (.sp s k) k3; simpa [jx] using this)
         have aeD : (fun k => JP c cs[k]?) j = c.lc s k := by
           show JP c cs[j]? = _; rw [k1]; rfl
         show OwnAt (c.map ρ) w (.bG i j) ((fun k => JP c cs[k]?) j) { B with xs := View.full.app B.xs } x; rw [aeD]; refine ⟨hxr.1, hs, hB, ?_⟩; show match c.lc s k with
           | .nil => B.xs = []
           | .at b off cap => _
         unfold bI at ha
         cases gV : c.lc s k with
         | nil => rw [gV] at ha; exact ha
         | «at» b off cap =>
           rw [gV] at ha; obtain ⟨h0, h2, h3, h4⟩ := ha; rw [hB] at h0; exact ⟨(Cz.j4 h0).trans hρ, h2, h3, h4.map hρ⟩
       | _ => trivial
 | one cx =>
   cases cx with
   | ptr b g off =>
     unfold dO at he; simp only at he
     cases hb : di st b g with
     | none => simp [hb] at he
     | some cs =>
       simp only [hb] at he
       cases hq : eF st true cs with
       | none => simp [hq] at he
       | some p =>
         obtain ⟨os, us, rs⟩ := p; simp only [hq] at he; obtain ⟨ho, xj⟩ := aH he; have ho1 := Nat.eq_of_beq_eq_true ho; simp only [Option.some.injEq, Prod.mk.injEq] at xj; obtain ⟨rfl, rfl, rfl, rfl⟩ := xj; subst ho1; obtain ⟨sl, k1, k2, k3⟩ := gU hb; obtain ⟨h1, vs, ty, h2, h3⟩ := h.boxes b sl cs k1 k3; obtain ⟨g1, g2⟩ := vals _ _ _ _ _ _ h3 hq; refine ⟨fun l hl => ?_, fun l hl => List.mem_cons_of_mem _ hl, jx i (.box os) [.box b] us, by rw [lY]; rfl, lZ _ _ _ _, fun ρ hp hr => ⟨c.bx b, vs, ty, hx.2.2 cs hb, ?_, h2, g2 ρ (fun p ku => hp p (List.mem_append_right _ ku)) hr⟩⟩
         · rcases List.mem_cons.1 hl with rfl | hl
           · rfl
           · exact g1 l hl
         · exact (Cz.j4 h1).trans (hp (.box b, .sE i) (by simp [jx]))
   | ref s j g vw =>
     unfold dO at he; have other : (match eF st m.nz [.ref s j g vw] with | some (os, u, r) => some (AV.val false os, bF u, bF u, r) | none => none) = some (av, u, q, r) → (∀ l ∈ u, l.real = true) ∧ (∀ l ∈ q, l ∈ u) ∧
         ∃ tb : List (Lb × Lb), tb.map (·.1) = u ∧ (∀ p ∈ tb, p.2.jV = true) ∧ ∀ ρ : Lb → Option Lb, (∀ p ∈ tb, ρ p.1 = some p.2) → (∀ p ∈ r, ρ (.sp p.1 p.2) = none) → rT (c.map ρ) w i (Bw c (.one (.ref s j g vw))) av x := by
       intro he
       cases hq : eF st m.nz [.ref s j g vw] with
       | none => simp [hq] at he
       | some p =>
         obtain ⟨os, us, rs⟩ := p; simp only [hq, Option.some.injEq, Prod.mk.injEq] at he; obtain ⟨rfl, rfl, rfl, rfl⟩ := he; exact single _ _ _ _ _ hx hq
     cases m with
     | shr => exact other he
     | own => exact other he
     | pick _ => exact other he
     | bB => exact other he
     | io =>
       cases vw with
       | full =>
         cases hA : aQ st s j g with
         | none => simp [hA] at he
         | some A =>
           simp only [hA] at he; obtain ⟨ho, xj⟩ := aH he; rw [Bool.and_eq_true] at ho; have ho := ho.1; simp only [Option.some.injEq, Prod.mk.injEq] at xj; obtain ⟨rfl, rfl, rfl, rfl⟩ := xj; refine ⟨by simp [Lb.real], by simp, [(.sp s j, .bG i 0)], rfl, by simp [Lb.jV], fun ρ hp _ => ?_⟩; have ha := wO h hA; have hs := hx.2.2 A hA; have hρ : ρ (.sp s j) = some (.bG i 0) := hp (.sp s j, .bG i 0) (by simp); refine ⟨hx.1, hs, ho, ?_⟩; show match c.lc s j with
             | .nil => A.xs = []
             | .at b off cap => _
           unfold bI at ha
           cases gV : c.lc s j with
           | nil => rw [gV] at ha; exact ha
           | «at» b off cap =>
             rw [gV] at ha; obtain ⟨h0, h2, h3, h4⟩ := ha; rw [ho] at h0; exact ⟨(Cz.j4 h0).trans hρ, h2, h3, h4.map hρ⟩
       | «from» _ => simp at he
       | sub _ _ => simp at he
   | _ =>
     unfold dO at he; simp only at he
     split at he
     · rename_i os us rs hq; simp only [Option.some.injEq, Prod.mk.injEq] at he; obtain ⟨rfl, rfl, rfl, rfl⟩ := he; exact single _ _ _ _ _ hx hq
     · cases he
theorem Fg {w0 : World} {mu : Mu} {c : Cz} {st : St} {a : Act} {w : World} (h : Rel w0 mu c st a w) : (ms : List (Pm × V)) → (i : Nat) → (xs : List Value) → ms.length = xs.length → (∀ (k : Nat) (m : Pm × V) (x : Value), ms[k]? = some m → xs[k]? = some x → dU c st w m.2 x) →
   {dt : List AV} → {u q : List Lb} → {r : List (Nat × Nat)} → iI st ms = some (dt, u, q, r) →
   (∀ l ∈ u, l.real = true) ∧ (∀ l ∈ q, l ∈ u) ∧ ∃ tb : List (Lb × Lb), tb.map (·.1) = u ∧ (∀ p ∈ tb, p.2.jV = true) ∧ dt.length = ms.length ∧
     ∀ (ρ : Lb → Option Lb) (lc : Nat → Nat → Loc), (∀ (k : Nat) (m : Pm × V), ms[k]? = some m → lc (i + k) = Bw c m.2) → (∀ p ∈ tb, ρ p.1 = some p.2) → (∀ p ∈ r, ρ (.sp p.1 p.2) = none) → xJ (c.map ρ) w lc i dt xs
 | [], i, xs, hl, hx, dt, u, q, r, he => by
   simp only [iI, Option.some.injEq, Prod.mk.injEq] at he; obtain ⟨rfl, rfl, rfl, rfl⟩ := he; simp at hl; exact ⟨by simp, by simp, [], rfl, by simp, rfl, fun ρ lc _ _ _ => List.length_eq_zero_iff.1 hl.symm⟩
 | (m, v) :: ms, i, xs, hl, hx, dt, u, q, r, he => by
   cases xs with
   | nil => simp at hl
   | cons x xs =>
     unfold iI at he
     cases h1 : dO st m v with
     | none => simp [h1] at he
     | some p1 =>
       obtain ⟨av, u1, q1, r1⟩ := p1
       cases h2 : iI st ms with
       | none => simp [h1, h2] at he
       | some p2 =>
         obtain ⟨RG, u2, q2, r2⟩ := p2; simp only [h1, h2, Option.some.injEq, Prod.mk.injEq] at he; obtain ⟨rfl, rfl, rfl, rfl⟩ := he; obtain ⟨a1, a2, ta, a4, a5, a3⟩ := Mx h (hx 0 (m, v) x rfl rfl) h1 i; obtain ⟨b1, b2, tb, b3, b4, b6, b5⟩ := Fg h ms (i + 1) xs (by simpa using hl) (fun k m x hm rF => hx (k + 1) m x (by simpa using hm) (by simpa using rF)) h2; refine ⟨fun l hl => ?_, fun l hl => ?_, ta ++ tb, by simp [a4, b3], fun p hp => ?_, by simp [b6], fun ρ lc gV hp hr => ?_⟩
         · rcases List.mem_append.1 hl with hl | hl
           · exact a1 l hl
           · exact b1 l hl
         · rcases List.mem_append.1 hl with hl | hl
           · exact List.mem_append_left _ (a2 l hl)
           · exact List.mem_append_right _ (b2 l hl)
         · rcases List.mem_append.1 hp with hp | hp
           · exact a5 p hp
           · exact b4 p hp
         · refine ⟨x, xs, rfl, ?_, b5 ρ lc (fun k m hm => ?_) (fun p ku => hp p (List.mem_append_right _ ku)) (fun p ku => hr p (List.mem_append_right _ ku))⟩
           · have := gV 0 (m, v) rfl; simp only [Nat.add_zero] at this; rw [this]; exact a3 ρ (fun p ku => hp p (List.mem_append_left _ ku)) (fun p ku => hr p (List.mem_append_left _ ku))
           · have := gV (k + 1) m (by simpa using hm)
             rwa [show i + (k + 1) = i + 1 + k by omega] at this
end Go.TM
namespace Go.TM
open Go Go.RowKit
structure ke (X : Lb → Prop) (w0 : World) (mu : Mu) (c : Cz) (st : St) (a : Act) (w : World) : Prop where
 eI : ∀ t, dU c st w (bK st t) (a.eval (.tmp t))
 boxes : ∀ s sl cs, ¬ X (.box s) → nth st s = some sl → sl.box = some cs → vA c st w s cs
 aK : ∀ s j sl A, ¬ X (.sp s j) → nth st s = some sl → nth sl.aK j = some (some A) → bI c w s j A
 owned : ∀ b l, c.own b = some l → b < w.heap.size ∧ (l = .out ∨ w0.heap.size ≤ b ∨ mu.m b)
 free : ∀ b, b < w0.heap.size → c.own b = none → mu.m b ∨ mu.ok b
 kept : w.os = w0.os ∧ w.tape = w0.tape ∧ w.output = w0.output ∧ w0.heap.size ≤ w.heap.size
 old : ∀ k, k < w0.heap.size → ¬ mu.m k → w.heap[k]? = w0.heap[k]?
 plain : a.defers = []
 dJ : ∀ p ∈ mu.an, Rs c st p
theorem ke.rel {w0 : World} {mu : Mu} {c : Cz} {st : St} {a : Act} {w : World} (h : ke (fun _ => False) w0 mu c st a w) : Rel w0 mu c st a w :=
 ⟨h.eI, fun s sl cs => h.boxes s sl cs id, fun s j sl A => h.aK s j sl A id, h.owned, h.free, h.kept, h.old, h.plain, h.dJ⟩
structure Bx (ρ : Lb → Lb) : Prop where
 other : ∀ l, (l = .out ∨ l.real = true) → ρ l = l
def Cz.dP (c : Cz) (ρ : Lb → Lb) (bx : Nat → Nat) (lc : Nat → Nat → Loc) : Cz := { bx := bx, lc := lc, own := fun b => (c.own b).map ρ }
theorem Cz.lH {c : Cz} {ρ : Lb → Lb} {bx : Nat → Nat} {lc : Nat → Nat → Loc} {b : Nat} : (c.dP ρ bx lc).ok b ↔ c.ok b := by
 unfold Cz.ok Cz.dP; simp
theorem nK (c : Cz) (w : World) (ρ : Lb → Lb) (bx : Nat → Nat) (lc : Nat → Nat → Loc) : iW w w c.ok (c.dP ρ bx lc).ok := ⟨Nat.le_refl _, fun _ _ _ => rfl, fun _ _ h => Cz.lH.2 h⟩
theorem ke.dP {X X' : Lb → Prop} {w0 : World} {mu : Mu} {c : Cz} {st aP : St} {a : Act} {w : World} (h : ke X w0 mu c st a w) {ρ : Lb → Lb} {bx : Nat → Nat} {lc : Nat → Nat → Loc} (hρ : Bx ρ)
   (gj : Fw c st w (c.dP ρ bx lc) aP w) (ZI : ∀ t, dU (c.dP ρ bx lc) aP w (bK aP t) (a.eval (.tmp t)))
   (aeE : ∀ s sl cs, ¬ X' (.box s) → nth aP s = some sl → sl.box = some cs → vA (c.dP ρ bx lc) aP w s cs)
   (Au : ∀ s j sl A, ¬ X' (.sp s j) → nth aP s = some sl → nth sl.aK j = some (some A) → bI (c.dP ρ bx lc) w s j A) : ke X' w0 mu (c.dP ρ bx lc) aP a w where
 eI := ZI
 boxes := aeE
 aK := Au
 owned b l hb := by
   unfold Cz.dP at hb; simp only [Option.map_eq_some_iff] at hb; obtain ⟨k, hk, e⟩ := hb; obtain ⟨h1, h2⟩ := h.owned b k hk; refine ⟨h1, h2.imp (fun e2 => ?_) id⟩; subst e2; rw [← e]; exact hρ.other _ (.inl rfl)
 free b hb h1 := h.free b hb (by unfold Cz.dP at h1; simpa using h1)
 kept := h.kept
 old := h.old
 plain := h.plain
 dJ p hp := gj.dJ (h.dJ p hp)
theorem gF (st : St) (s j : Nat) (A : Option gP) (k : Nat) : ∃ f : Sl → Sl, (∀ x, (f x).v = x.v ∧ (f x).box = x.box ∧ (f x).bg = x.bg ∧ (f x).ag = x.ag ∧
     (∀ i, nth (f x).aK i = if k = s ∧ i = j then (nth x.aK i).map (fun _ => A) else nth x.aK i) ∧ (f x).ep = if k = s then x.ep + 1 else x.ep) ∧ nth (bo st s j A) k = (nth st k).map f := by
 unfold bo
 by_cases e : k = s
 · subst e; refine ⟨fun s => { s with aK := mq (fun _ => A) s.aK j, ep := s.ep + 1 }, fun x => ⟨rfl, rfl, rfl, rfl, fun i => ?_, by simp⟩, jv _ _ _⟩; simp only [dn, true_and]
 · refine ⟨id, fun x => ⟨rfl, rfl, rfl, rfl, fun i => ?_, by simp [e]⟩, by rw [lU _ _ e]; simp⟩; simp [e]
theorem C2 (st : St) (s j : Nat) (A : Option gP) (t : Nat) : lT st t ≤ lT (bo st s j A) t ∧ (lT (bo st s j A) t = lT st t → t ≠ s ∨ nth st t = none) := by
 obtain ⟨f, hf, hk⟩ := gF st s j A t; unfold lT; rw [hk]
 cases nth st t with
 | none => simp
 | some x =>
   simp only [Option.map_some]; rw [(hf x).2.2.2.2.2]
   by_cases e : t = s
   · rw [if_pos e]; exact ⟨by omega, fun h => by omega⟩
   · rw [if_neg e]; exact ⟨Nat.le_refl _, fun _ => .inl e⟩
theorem vK (st : St) (s j : Nat) (A : Option gP) (t : Nat) : bK (bo st s j A) t = bK st t := by
 obtain ⟨f, hf, hk⟩ := gF st s j A t; unfold bK; rw [hk]
 cases nth st t with
 | none => rfl
 | some x => exact (hf x).1
theorem C3 (st : St) (s j : Nat) (A : Option gP) (t : Nat) : cQ (bo st s j A) t = cQ st t ∧ fM (bo st s j A) t = fM st t := by
 obtain ⟨f, hf, hk⟩ := gF st s j A t; unfold cQ fM; rw [hk]
 cases nth st t with
 | none => exact ⟨rfl, rfl⟩
 | some x => exact ⟨(hf x).2.2.2.1, (hf x).2.2.1⟩
theorem HR (st : St) (s j : Nat) (A : Option gP) (b g : Nat) : di (bo st s j A) b g = di st b g := by
 obtain ⟨f, hf, hk⟩ := gF st s j A b; unfold di; rw [hk]
 cases nth st b with
 | none => rfl
 | some x => simp [(hf x).2.1, (hf x).2.2.1]
theorem ob {st : St} {a j g : Nat} {sl : Sl} {A : gP} (h1 : nth st a = some sl) (h2 : sl.ag = g) (h3 : nth sl.aK j = some (some A)) : aQ st a j g = some A := by
 unfold aQ; rw [h1]; simp [h2, h3]
theorem Av {c : Cz} {st : St} {w : World} {s j g : Nat} {A : Option gP} {A0 : gP} (h0 : aQ st s j g = some A0 ∨ A = none) (hA : ∀ B, A = some B → B.r.width = A0.r.width ∧ B.xs.length = A0.xs.length) (ρ : Lb → Lb) :
   Fw c st w (c.dP ρ c.bx c.lc) (bo st s j A) w where
 stays := nK c w ρ _ _
 refs a' j' g' A' hg dQ := by
   obtain ⟨sl, k1, k2, k3⟩ := ba dQ; obtain ⟨f, hf, hk⟩ := gF st s j A a'; rw [hk] at k1
   cases hx : nth st a' with
   | none => rw [hx] at k1; simp at k1
   | some x =>
     rw [hx] at k1; simp at k1; subst k1; rw [(hf x).2.2.2.1] at k2; rw [(hf x).2.2.2.2.1 j'] at k3
     by_cases e : a' = s ∧ j' = j
     · rw [if_pos e] at k3; obtain ⟨rfl, rfl⟩ := e
       cases hq : nth x.aK j' with
       | none => simp [hq] at k3
       | some A1 =>
         simp only [hq, Option.map_some, Option.some.injEq] at k3; rcases h0 with h0 | h0
         · obtain ⟨sl, k1', k2', k3'⟩ := ba h0; rw [hx] at k1'; cases k1'; obtain ⟨e1, e2⟩ := hA A' k3; refine ⟨A0, ob hx k2 k3', e1, e2, rfl, fun he => ?_⟩; rcases (C2 st a' j' A a').2 he with h | h
           · exact absurd rfl h
           · rw [hx] at h; cases h
         · rw [h0] at k3; cases k3
     · rw [if_neg e] at k3; exact ⟨A', ob hx k2 k3, rfl, rfl, rfl, fun _ => ⟨rfl, fun _ _ _ _ => rfl⟩⟩
 B8 b g' cs _ h := ⟨⟨cs, by rwa [HR] at h⟩, rfl⟩
 gA a' := by rw [(C3 st s j A a').1]; exact Nat.le_refl _
 gB a' := by rw [(C3 st s j A a').2]; exact Nat.le_refl _
 gE a' := (C2 st s j A a').1
theorem vA.dP {c : Cz} {st aP : St} {w : World} {ρ : Lb → Lb} {bx : Nat → Nat} {lc : Nat → Nat → Loc} (hρ : Bx ρ) (gj : Fw c st w (c.dP ρ bx lc) aP w) {s : Nat} {cs : List CV} (h : vA c st w s cs) (hb : bx s = c.bx s) : vA (c.dP ρ bx lc) aP w s cs := by
 refine h.go gj hb ?_ rfl; unfold Cz.dP; simp only; rw [h.1]; simp [hρ.other (.box s) (.inr rfl)]
theorem bI.dP {c : Cz} {w : World} {ρ : Lb → Lb} {bx : Nat → Nat} {lc : Nat → Nat → Loc} (hρ : Bx ρ) {s j : Nat} {A : gP} (h : bI c w s j A) (hl : lc s j = c.lc s j) : bI (c.dP ρ bx lc) w s j A := by
 refine h.go (nK c w ρ bx lc) hl (fun b h0 => ⟨rfl, ?_⟩); unfold Cz.dP; simp only; rw [h0]; simp [hρ.other (.sp s j) (.inr rfl)]
theorem qL : Bx id := ⟨fun _ _ => rfl⟩
theorem ke.kill {X : Lb → Prop} {w0 : World} {mu : Mu} {c : Cz} {st : St} {a : Act} {w : World} (h : ke X w0 mu c st a w) (s j : Nat) : ke (fun l => X l ∧ l ≠ .sp s j) w0 mu (c.dP id c.bx c.lc) (bo st s j none) a w ∧ Fw c st w (c.dP id c.bx c.lc) (bo st s j none) w := by
 have gj : Fw c st w (c.dP id c.bx c.lc) (bo st s j none) w := Av (g := 0) (A0 := { r := .nil, own := false, xs := [] }) (.inr rfl) (fun _ e => by cases e) id; refine ⟨h.dP qL gj (fun t => by rw [vK]; exact gj.mr (h.eI t)) (fun k sl cs hX hs hb => ?_) (fun k i sl A hX hs hA => ?_), gj⟩
 · obtain ⟨f, hf, hk⟩ := gF st s j none k; rw [hk] at hs
   cases hx : nth st k with
   | none => rw [hx] at hs; simp at hs
   | some x =>
     rw [hx] at hs; simp at hs; subst hs; rw [(hf x).2.1] at hb; exact (h.boxes k x cs (fun My => hX ⟨My, by simp⟩) hx hb).dP qL gj rfl
 · obtain ⟨f, hf, hk⟩ := gF st s j none k; rw [hk] at hs
   cases hx : nth st k with
   | none => rw [hx] at hs; simp at hs
   | some x =>
     rw [hx] at hs; simp at hs; subst hs; rw [(hf x).2.2.2.2.1 i] at hA
     by_cases e : k = s ∧ i = j
     · rw [if_pos e] at hA
       cases hq : nth x.aK i <;> simp [hq] at hA
     · rw [if_neg e] at hA; exact (h.aK k i x A (fun My => hX ⟨My, by rintro e'; injection e' with e1 e2; exact e ⟨e1, e2⟩⟩) hx hA).dP qL rfl
theorem ke.mono {X X' : Lb → Prop} {w0 : World} {mu : Mu} {c : Cz} {st : St} {a : Act} {w : World} (h : ke X w0 mu c st a w) (hX : ∀ l, X l → X' l) : ke X' w0 mu c st a w :=
 ⟨h.eI, fun s sl cs hn => h.boxes s sl cs (fun h => hn (hX _ h)), fun s j sl A hn => h.aK s j sl A (fun h => hn (hX _ h)), h.owned, h.free, h.kept, h.old, h.plain, h.dJ⟩
def ss (i z s j : Nat) : Lb → Lb
 | .bG x y => if x = i ∧ y = z then .sp s j else .bG x y
 | l => l
def pS (i b : Nat) : Lb → Lb
 | .bG x y => if x = i then .sp b y else .bG x y
 | .sE x => if x = i then .box b else .sE x
 | l => l
theorem GC (i z s j : Nat) : Bx (ss i z s j) := ⟨fun l h => by cases l <;> simp [ss, Lb.real] at h ⊢⟩
theorem EB (i b : Nat) : Bx (pS i b) := ⟨fun l h => by cases l <;> simp [pS, Lb.real] at h ⊢⟩
theorem OwnAt.arr {c : Cz} {w : World} {l : Lb} {lc' : Loc} {A : gP} {v : Value} (h : OwnAt c w l lc' A v) {ρ : Lb → Lb} {bx : Nat → Nat} {lc : Nat → Nat → Loc} {s j : Nat} (hl : lc s j = lc') (hρ : ρ l = .sp s j) : bI (c.dP ρ bx lc) w s j A := by
 obtain ⟨_, _, h3, h4⟩ := h; unfold bI; show match lc s j with | .nil => _ | .at b off cap => _
 rw [hl]
 cases lc' with
 | nil => exact h4
 | «at» b off cap =>
   obtain ⟨g1, g2, g3, g4⟩ := h4; rw [h3]; have hq : ∀ k, c.own k = some l → (c.dP ρ bx lc).own k = some (.sp s j) := by
     intro k hk; show (c.own k).map ρ = _; rw [hk]; simp [hρ]
   exact ⟨hq b g1, g2, g3, g4.go (fun _ => nK c w ρ bx lc) rfl (fun _ k hk => ⟨rfl, hq k hk⟩)⟩
theorem ke.io {X : Lb → Prop} {w0 : World} {mu : Mu} {c : Cz} {st : St} {a : Act} {w : World} (h : ke X w0 mu c st a w) {s j g i z : Nat} {A B : gP} {v : Value} (hA : aQ st s j g = some A) (hw : B.r.width = A.r.width) (hn : B.xs.length = A.xs.length)
   (hB : OwnAt c w (.bG i z) (c.lc s j) B v) : ke (fun l => X l ∧ l ≠ .sp s j) w0 mu (c.dP (ss i z s j) c.bx c.lc) (bo st s j (some B)) a w ∧ Fw c st w (c.dP (ss i z s j) c.bx c.lc) (bo st s j (some B)) w := by
 have gj : Fw c st w (c.dP (ss i z s j) c.bx c.lc) (bo st s j (some B)) w := Av (.inl hA) (fun _ e => by cases e; exact ⟨hw, hn⟩) _; have ht := GC i z s j; refine ⟨h.dP ht gj (fun t => by rw [vK]; exact gj.mr (h.eI t)) (fun k sl cs hX hs hb => ?_) (fun k q sl A' hX hs dQ => ?_), gj⟩
 · obtain ⟨f, hf, hk⟩ := gF st s j (some B) k; rw [hk] at hs
   cases hx : nth st k with
   | none => rw [hx] at hs; simp at hs
   | some x =>
     rw [hx] at hs; simp at hs; subst hs; rw [(hf x).2.1] at hb; exact (h.boxes k x cs (fun My => hX ⟨My, by simp⟩) hx hb).dP ht gj rfl
 · obtain ⟨f, hf, hk⟩ := gF st s j (some B) k; rw [hk] at hs
   cases hx : nth st k with
   | none => rw [hx] at hs; simp at hs
   | some x =>
     rw [hx] at hs; simp at hs; subst hs; rw [(hf x).2.2.2.2.1 q] at dQ
     by_cases e : k = s ∧ q = j
     · rw [if_pos e] at dQ; obtain ⟨rfl, rfl⟩ := e
       cases hq : nth x.aK q with
       | none => simp [hq] at dQ
       | some A1 =>
         simp only [hq, Option.map_some, Option.some.injEq] at dQ; subst dQ; exact hB.arr rfl (by simp [ss])
     · rw [if_neg e] at dQ; exact (h.aK k q x A' (fun My => hX ⟨My, by rintro e'; injection e' with e1 e2; exact e ⟨e1, e2⟩⟩) hx dQ).dP ht rfl
theorem bc.cells {c : Cz} {w : World} {f : Nat → Lb} : (os : List OV) → (j : Nat) → (vs : List Value) → bc c w f j os vs →
   ∃ lcs : Nat → Loc, (∀ k A, nth (aY os) k = some (some A) → ∃ v, OwnAt c w (f (j + k)) (lcs (j + k)) A v) ∧
     ∀ (c2 : Cz) (gD : St) (d g : Nat), (∀ b, c.ok b → c2.ok b) → (∀ k, k < os.length → c2.lc d (j + k) = lcs (j + k)) → (∀ k A, k < os.length → aQ gD d (j + k) g = some A → nth (aY os) k = some (some A)) → g ≤ cQ gD d → eH c2 gD w (aV d g j os) vs
 | [], j, vs, h => by
   subst h; exact ⟨fun _ => .nil, fun k A hA => by simp [aY] at hA, fun _ _ _ _ _ _ _ _ => ⟨rfl, fun i x v hx => by simp [aV] at hx⟩⟩
 | o :: os, j, vs, h => by
   obtain ⟨v, l, rfl, hh, sI⟩ : ∃ v l, vs = v :: l ∧ bc c w f (j + 1) os l ∧ ∃ lc, (∀ A, o.arr = some A → OwnAt c w (f j) lc A v) ∧ ∀ (c2 : Cz) (gD : St) (d g : Nat), (∀ b, c.ok b → c2.ok b) → c2.lc d j = lc → (∀ A, aQ gD d j g = some A → o.arr = some A) → g ≤ cQ gD d →
       ∃ x, aV d g j (o :: os) = x :: aV d g (j + 1) os ∧ jw c2 gD w x v := by
     cases o with
     | int k n => obtain ⟨l, h1, h2⟩ := h; exact ⟨_, l, h1, h2, .nil, (fun _ e => by cases e), fun c2 gD d g _ _ _ _ => ⟨_, rfl, rfl⟩⟩
     | bool b => obtain ⟨l, h1, h2⟩ := h; exact ⟨_, l, h1, h2, .nil, (fun _ e => by cases e), fun c2 gD d g _ _ _ _ => ⟨_, rfl, rfl⟩⟩
     | str b => obtain ⟨l, h1, h2⟩ := h; exact ⟨_, l, h1, h2, .nil, (fun _ e => by cases e), fun c2 gD d g _ _ _ _ => ⟨_, rfl, rfl⟩⟩
     | dD => obtain ⟨l, h1, h2⟩ := h; exact ⟨_, l, h1, h2, .nil, (fun _ e => by cases e), fun c2 gD d g _ _ _ _ => ⟨_, rfl, rfl⟩⟩
     | shr r xs =>
       obtain ⟨v, l, h1, h2, h3⟩ := h; exact ⟨v, l, h1, h3, .nil, (fun _ e => by cases e), fun c2 gD d g fH _ _ _ => ⟨.shr r xs, rfl, bH.stays ⟨Nat.le_refl _, fun _ _ _ => rfl, fun b _ hb => fH b hb⟩ _ _ _ h2⟩⟩
     | lf r xs =>
       obtain ⟨v, l, h1, ⟨b, o, e1, e2, e3, e4⟩, h3⟩ := h; exact ⟨v, l, h1, h3, .nil, (fun _ e => by cases e), fun c2 gD d g fH _ _ _ => ⟨.sn r xs 0, rfl, b, o, e1, e2, fH b e3, fun x hx => cn.stays ⟨Nat.le_refl _, fun _ _ _ => rfl, fun b _ hb => fH b hb⟩ _ _ _ _ rfl (e4 x hx)⟩⟩
     | fn g rs xs =>
       obtain ⟨v, l, h1, h2, h3⟩ := h; exact ⟨v, l, h1, h3, .nil, (fun _ e => by cases e), fun c2 gD d g' fH _ _ _ => ⟨.fn g rs xs, rfl, h2.stays ⟨Nat.le_refl _, fun _ _ _ => rfl, fun b _ hb => fH b hb⟩⟩⟩
     | own A =>
       obtain ⟨v, l, h1, ⟨lc, h2⟩, h3⟩ := h; refine ⟨v, l, h1, h3, lc, (fun A' e => by cases e; exact h2), fun c2 gD d g _ gV Au hg => ⟨.ref d j g .full, rfl, h2.1, hg, fun A' dQ => ?_⟩⟩; have e := Au A' dQ
       cases e
       rw [gV]; exact h2.2.1
   obtain ⟨lc, q1, q2⟩ := sI; obtain ⟨lcs, g1, g2⟩ := bc.cells os (j + 1) l hh; refine ⟨fun k => if k = j then lc else lcs k, fun k A' dQ => ?_, fun c2 gD d g fH gV Au hg => ?_⟩
   · cases k with
     | zero =>
       simp only [aY, nth, Option.some.injEq] at dQ; exact ⟨v, by simpa using q1 A' dQ⟩
     | succ k =>
       have := g1 k A' dQ; rw [show j + 1 + k = j + (k + 1) by omega] at this; show ∃ v, OwnAt c w (f (j + (k + 1))) (if j + (k + 1) = j then lc else lcs (j + (k + 1))) A' v; rw [if_neg (by omega)]; exact this
   · have eQ := g2 c2 gD d g fH (fun k hk => by
       have : c2.lc d (j + (k + 1)) = if j + (k + 1) = j then lc else lcs (j + (k + 1)) := gV (k + 1) (by simp; exact hk)
       rw [if_neg (by omega)] at this; rw [show j + 1 + k = j + (k + 1) by omega]; exact this) (fun k A' hk dQ => by
         have := Au (k + 1) A' (by simp; exact hk) (by rw [show j + (k + 1) = j + 1 + k by omega]; exact dQ); exact this) hg
     have h0 : c2.lc d j = lc := by
       have := gV 0 (by simp); simpa using this
     obtain ⟨x, e1, e2⟩ := q2 c2 gD d g fH h0 (fun A hA => by
       have := Au 0 A (by simp) hA; simpa [aY, nth] using this) hg
     rw [e1]; refine ⟨by simp [eQ.1], fun k y z hy hz => ?_⟩
     cases k with
     | zero =>
       simp only [List.getElem?_cons_zero, Option.some.injEq] at hy hz; subst hy hz; exact e2
     | succ k => exact eQ.2 k y z (by simpa using hy) (by simpa using hz)
theorem ke.boxed {X : Lb → Prop} {w0 : World} {mu : Mu} {c : Cz} {st : St} {a : Act} {w : World} (h : ke X w0 mu c st a w) {b g i : Nat} {s0 : Sl} {N7 : List CV} {os : List OV} {v : Value} (iE : nth st b = some s0) (Ca : di st b g = some N7) (hv : v = .pointer (some ⟨c.bx b, 0, none⟩))
   (hB : Fe c w i os v) : ∃ c', ke (fun l => X l ∧ l ≠ .box b) w0 mu c' (mq (fun s => { s with box := some (aV b (s0.ag + 1) 0 os), aK := aY os, ag := s0.ag + 1 }) st b) a w ∧
     Fw c st w c' (mq (fun s => { s with box := some (aV b (s0.ag + 1) 0 os), aK := aY os, ag := s0.ag + 1 }) st b) w ∧ Pass c c' (fun l => (∀ y, l ≠ .bG i y) ∧ l ≠ .sE i) := by
 obtain ⟨nB, vs, ty, h1, h2, h3, h4⟩ := hB; obtain ⟨lcs, g1, g2⟩ := bc.cells os 0 _ h4; rw [hv] at h1; have e : c.bx b = nB := by injection h1 with h1; injection h1 with h1; injection h1
 obtain ⟨_, ZJ, Rv, RH⟩ := gU Ca; rw [iE] at ZJ; cases ZJ
 let c' := c.dP (pS i b) c.bx (fun s j => if s = b then lcs j else c.lc s j)
 let aP := mq (fun s => { s with box := some (aV b (s0.ag + 1) 0 os), aK := aY os, ag := s0.ag + 1 }) st b
 have hn : ∀ s, nth aP s = if s = b then some { s0 with box := some (aV b (s0.ag + 1) 0 os), aK := aY os, ag := s0.ag + 1 } else nth st s := by
   intro s; show nth (mq _ st b) s = _; rw [dn]
   by_cases e : s = b
   · subst e; simp [iE]
   · simp [e]
 have Aw : cQ aP b = s0.ag + 1 := by unfold cQ; rw [hn]; simp
 have HS : cQ st b = s0.ag := by unfold cQ; rw [iE]
 have ht := EB i b; have gj : Fw c st w c' aP w := {
   stays := nK c w _ _ _
   refs := fun a' j' g' A' hg dQ => by
     obtain ⟨sl, k1, k2, k3⟩ := ba dQ; rw [hn] at k1
     by_cases e : a' = b
     · rw [if_pos e] at k1
       cases k1
       subst e; simp only at k2; omega
     · rw [if_neg e] at k1; exact ⟨A', ob k1 k2 k3, rfl, rfl, by show (if a' = b then _ else _) = _; rw [if_neg e], fun _ => ⟨rfl, fun _ _ _ _ => rfl⟩⟩
   B8 := fun b' g' mA hg JD => by
     obtain ⟨sl, k1, k2, k3⟩ := gU JD; rw [hn] at k1
     by_cases e : b' = b
     · rw [if_pos e] at k1
       cases k1
       subst e; exact ⟨⟨N7, by unfold di; rw [iE]; simp at k2; simp [k2, RH]⟩, rfl⟩
     · rw [if_neg e] at k1; exact ⟨⟨mA, by unfold di; rw [k1]; simp [k2, k3]⟩, rfl⟩
   gA := fun a' => by
     by_cases e : a' = b
     · subst e; rw [Aw, HS]; omega
     · unfold cQ; rw [hn, if_neg e]; exact Nat.le_refl _
   gB := fun a' => by
     by_cases e : a' = b
     · subst e; unfold fM; rw [hn, if_pos rfl, iE]; exact Nat.le_refl _
     · unfold fM; rw [hn, if_neg e]; exact Nat.le_refl _
   gE := fun a' => by
     by_cases e : a' = b
     · subst e; unfold lT; rw [hn, if_pos rfl, iE]; exact Nat.le_refl _
     · unfold lT; rw [hn, if_neg e]; exact Nat.le_refl _ }
 have HT : ∀ k A, aQ aP b k (s0.ag + 1) = some A → nth (aY os) k = some (some A) := by
   intro k A hA; obtain ⟨sl, k1, k2, k3⟩ := ba hA; rw [hn, if_pos rfl] at k1
   cases k1
   exact k3
 refine ⟨c', h.dP ht gj (fun t => ?_) (fun s sl cs hX hs hb => ?_) (fun s j sl A hX hs hA => ?_), gj, ⟨fun k l hl hk => ?_, fun k hk => Cz.lH.2 hk⟩⟩
 · have : bK aP t = bK st t := by
     unfold bK; rw [hn]
     by_cases e : t = b
     · subst e; rw [if_pos rfl, iE]
     · rw [if_neg e]
   rw [this]; exact gj.mr (h.eI t)
 · rw [hn] at hs
   by_cases e' : s = b
   · subst e'; rw [if_pos rfl] at hs
     cases hs
     simp only [Option.some.injEq] at hb; subst hb; refine ⟨?_, vs, ty, by show w.heap[c.bx s]? = _; rw [e]; exact h3, ?_⟩
     · show (c.own (c.bx s)).map (pS i s) = some (.box s); rw [e, h2]; simp [pS]
     · exact g2 c' aP s (s0.ag + 1) (fun b hb => Cz.lH.2 hb) (fun k _ => by show (if s = s then _ else _) = _; rw [if_pos rfl]) (fun k A _ hA => HT k A (by simpa using hA)) (by rw [Aw]; exact Nat.le_refl _)
   · rw [if_neg e'] at hs; exact (h.boxes s sl cs (fun My => hX ⟨My, by rintro e2; injection e2 with e2; exact e' e2⟩) hs hb).dP ht gj rfl
 · rw [hn] at hs
   by_cases e' : s = b
   · subst e'; rw [if_pos rfl] at hs
     cases hs
     obtain ⟨v', nv⟩ := g1 j A hA; exact nv.arr (by simp) (by simp [pS])
   · rw [if_neg e'] at hs; exact (h.aK s j sl A (fun My => hX ⟨My, by simp⟩) hs hA).dP ht (by simp [e'])
 · show (c.own k).map (pS i b) = _; rw [hk]; simp only [Option.map_some, Option.some.injEq]
   cases l with
   | bG x y => simp only [pS]; rw [if_neg]; rintro rfl; exact hl.1 y rfl
   | sE x => simp only [pS]; rw [if_neg]; rintro rfl; exact hl.2 rfl
   | _ => rfl
end Go.TM
namespace Go.TM
open Go Go.RowKit
def Lb.HU : Lb → Option Lb
 | .bG i j => some (.bG i j)
 | .sE i => some (.sE i)
 | .il j => some (.il j)
 | _ => none
noncomputable def Cz.merge (c c1 : Cz) (n : Nat) (m : Nat → Prop) : Cz :=
 { bx := c.bx, lc := c.lc, own := fun b => have := Classical.propDecidable (b < n ∧ ¬ m b); if b < n ∧ ¬ m b then c.own b else (c1.own b).bind Lb.HU }
theorem Cz.sM {c c1 : Cz} {n : Nat} {m : Nat → Prop} {b : Nat} (h : b < n ∧ ¬ m b) : (c.merge c1 n m).own b = c.own b := by
 unfold Cz.merge; simp only; rw [if_pos h]
theorem Cz.Ax {c c1 : Cz} {n : Nat} {m : Nat → Prop} {b : Nat} (h : ¬ (b < n ∧ ¬ m b)) : (c.merge c1 n m).own b = (c1.own b).bind Lb.HU := by
 unfold Cz.merge; simp only; rw [if_neg h]
theorem qM (st : St) (s : Nat) : nth (yT st) s = (nth st s).map fun x => { x with ep := x.ep + 1 } := by
 unfold yT; rw [fL, fL, List.getElem?_map]
theorem Mz (st : St) (t : Nat) : bK (yT st) t = bK st t := by
 unfold bK; rw [qM]
 cases nth st t <;> rfl
theorem MA (st : St) (a j g : Nat) : aQ (yT st) a j g = aQ st a j g := by
 unfold aQ; rw [qM]
 cases nth st a <;> rfl
theorem MB (st : St) (b g : Nat) : di (yT st) b g = di st b g := by
 unfold di; rw [qM]
 cases nth st b <;> rfl
theorem HV (st : St) (a : Nat) : cQ (yT st) a = cQ st a ∧ fM (yT st) a = fM st a := by
 unfold cQ fM; rw [qM]
 cases nth st a <;> exact ⟨rfl, rfl⟩
theorem HW (st : St) (a : Nat) : lT st a ≤ lT (yT st) a ∧ (lT (yT st) a = lT st a → nth st a = none) := by
 unfold lT; rw [qM]
 cases nth st a <;> simp
theorem Rel.ZK {w0 : World} {mu : Mu} {c : Cz} {st : St} {a : Act} {w : World} (h : Rel w0 mu c st a w) {μ : Mu} {c1 : Cz} {w' : World} (hb : Aq w μ c1 w') {X : Lb → Prop} (hm : ∀ b, μ.m b → ∃ l, c.own b = some l ∧ X l) (hX : ∀ l, X l → l ≠ .out) :
   ke X w0 mu (c.merge c1 w.heap.size μ.m) (yT st) a w' ∧ Fw c st w (c.merge c1 w.heap.size μ.m) (yT st) w' ∧ (∀ b l, c.own b = some l → ¬ X l → w'.heap[b]? = w.heap[b]? ∧ (c.merge c1 w.heap.size μ.m).own b = c.own b) ∧ (∀ b l, l.HU = some l → c1.own b = some l → (c.merge c1 w.heap.size μ.m).own b = some l) ∧ ((∀ b, μ.ok b → c.own b = none) → ∀ b, c1.ok b → (c.merge c1 w.heap.size μ.m).ok b) := by
 have kO : w.heap.size ≤ w'.heap.size := hb.kept.2.2.2; have qn : iW w w' c.ok (c.merge c1 w.heap.size μ.m).ok := {
   size := kO
   block := fun b bN fH => hb.old b bN (fun Bs => by
     obtain ⟨l, hl, _⟩ := hm b Bs; unfold Cz.ok at fH; rw [fH] at hl; cases hl)
   ok := fun b bN fH => by
     unfold Cz.ok; rw [Cz.sM ⟨bN, fun Bs => by
       obtain ⟨l, hl, _⟩ := hm b Bs; unfold Cz.ok at fH; rw [fH] at hl; cases hl⟩]
     exact fH }
 have gj : Fw c st w (c.merge c1 w.heap.size μ.m) (yT st) w' := {
   stays := qn
   refs := fun a' j g A' _ hA => by
     rw [MA] at hA; refine ⟨A', hA, rfl, rfl, rfl, fun he => ?_⟩; have := (HW st a').2 he; unfold aQ at hA; rw [this] at hA
     cases hA
   B8 := fun b g cs _ hc => ⟨⟨cs, by rwa [MB] at hc⟩, rfl⟩
   gA := fun a' => by rw [(HV st a').1]; exact Nat.le_refl _
   gB := fun a' => by rw [(HV st a').2]; exact Nat.le_refl _
   gE := fun a' => (HW st a').1 }
 have keep : ∀ b l, c.own b = some l → ¬ X l → w'.heap[b]? = w.heap[b]? ∧ (c.merge c1 w.heap.size μ.m).own b = c.own b := by
   intro b l hl hn; have bN := (h.owned b l hl).1; have Bs : ¬ μ.m b := fun Bs => by
     obtain ⟨l', xr, hx⟩ := hm b Bs; rw [hl] at xr; cases xr; exact hn hx
   exact ⟨hb.old b bN Bs, Cz.sM ⟨bN, Bs⟩⟩
 refine ⟨⟨fun t => by rw [Mz]; exact gj.mr (h.eI t), fun s sl cs hn hs Ca => ?_, fun s j sl A hn hs hA => ?_, fun b l hl => ?_, fun b bN hl => ?_, ?_, fun k hk hmu => ?_, h.plain, fun p hp => gj.dJ (h.dJ p hp)⟩, gj, keep, fun b l hk hl => ?_, fun fH b h1 => ?_⟩
 · rw [qM] at hs; obtain ⟨Th, iE, rfl⟩ := Option.map_eq_some_iff.1 hs; have h0 := h.boxes s Th cs iE Ca; obtain ⟨k1, k2⟩ := keep _ _ h0.1 hn; exact h0.go gj rfl k2 k1
 · rw [qM] at hs; obtain ⟨Th, iE, rfl⟩ := Option.map_eq_some_iff.1 hs; have h0 := h.aK s j Th A iE hA; exact h0.go qn rfl (fun b g1 => keep b _ g1 hn)
 · by_cases e : b < w.heap.size ∧ ¬ μ.m b
   · rw [Cz.sM e] at hl; have := h.owned b l hl; exact ⟨Nat.lt_of_lt_of_le this.1 kO, this.2⟩
   · rw [Cz.Ax e] at hl; obtain ⟨k, hk, e2⟩ := Option.bind_eq_some_iff.1 hl; obtain ⟨g1, g2⟩ := hb.owned b k hk; refine ⟨g1, .inr ?_⟩; have Cb : k ≠ .out := by rintro rfl; simp [Lb.HU] at e2
     by_cases bN : b < w.heap.size
     · have Bs : μ.m b := Classical.not_not.1 (fun h => e ⟨bN, h⟩); obtain ⟨l', xr, hx⟩ := hm b Bs; rcases (h.owned b l' xr).2 with q | q
       · exact absurd q (hX l' hx)
       · exact q
     · have := h.kept.2.2.2; exact .inl (by omega)
 · by_cases e : b < w.heap.size ∧ ¬ μ.m b
   · rw [Cz.sM e] at hl; exact h.free b bN hl
   · have UI : b < w.heap.size := Nat.lt_of_lt_of_le bN h.kept.2.2.2; have Bs : μ.m b := Classical.not_not.1 (fun h => e ⟨UI, h⟩); obtain ⟨l', xr, hx⟩ := hm b Bs; rcases (h.owned b l' xr).2 with q | q | q
     · exact absurd q (hX l' hx)
     · omega
     · exact .inl q
 · exact ⟨hb.kept.1.trans h.kept.1, hb.kept.2.1.trans h.kept.2.1, hb.kept.2.2.1.trans h.kept.2.2.1, Nat.le_trans h.kept.2.2.2 kO⟩
 · have UI : k < w.heap.size := Nat.lt_of_lt_of_le hk h.kept.2.2.2; rw [hb.old k UI (fun Bs => ?_)]
   · exact h.old k hk hmu
   · obtain ⟨l', xr, hx⟩ := hm k Bs; rcases (h.owned k l' xr).2 with q | q | q
     · exact hX l' hx q
     · omega
     · exact hmu q
 · rw [Cz.Ax (fun e => ?_), hl]
   · exact hk
   · rcases (hb.owned b l hl).2 with q | q | q
     · subst q; simp [Lb.HU] at hk
     · omega
     · exact e.2 q
 · unfold Cz.ok at h1 ⊢
   by_cases e : b < w.heap.size ∧ ¬ μ.m b
   · rw [Cz.sM e]; rcases hb.free b e.1 h1 with q | q
     · exact absurd q e.2
     · exact fH b q
   · rw [Cz.Ax e, h1]; rfl
theorem Cz.HX (c : Cz) (bx : Nat → Nat) (lc : Nat → Nat → Loc) : (c.dP id bx lc).own = c.own := by
 funext b
 unfold Cz.dP; simp
theorem xK {w0 : World} {mu : Mu} {a : Act} {w : World} : (ks : List Lb) → {X : Lb → Prop} → {c : Cz} → {st : St} → ke X w0 mu c st a w →
   ∃ c', ke (fun l => X l ∧ ∀ s j, Lb.sp s j ∈ ks → l ≠ .sp s j) w0 mu c' (n8 st ks) a w ∧ Fw c st w c' (n8 st ks) w ∧ c'.own = c.own
 | [], X, c, st, h => ⟨c, h.mono (fun l hl => ⟨hl, by simp⟩), Fw.refl c st w, rfl⟩
 | k :: ks, X, c, st, h => by
   have skip : n8 st (k :: ks) = n8 st ks → (∀ s j, k ≠ .sp s j) → ∃ c', ke (fun l => X l ∧ ∀ s j, Lb.sp s j ∈ k :: ks → l ≠ .sp s j) w0 mu c' (n8 st (k :: ks)) a w ∧ Fw c st w c' (n8 st (k :: ks)) w ∧ c'.own = c.own := by
     intro e hk; obtain ⟨c', h1, h2, h3⟩ := xK ks h; rw [e]; refine ⟨c', h1.mono (fun l hl => ⟨hl.1, fun s j hm => ?_⟩), h2, h3⟩; rcases List.mem_cons.1 hm with e2 | hm
     · exact absurd e2.symm (hk s j)
     · exact hl.2 s j hm
   cases k with
   | sp s j =>
     obtain ⟨h1, h2⟩ := h.kill s j; obtain ⟨c', h3, h4, h5⟩ := xK ks h1; refine ⟨c', h3.mono (fun l hl => ⟨hl.1.1, fun s' j' hm => ?_⟩), h2.trans h4, h5.trans (Cz.HX _ _ _)⟩; rcases List.mem_cons.1 hm with e2 | hm
     · cases e2; exact hl.1.2
     · exact hl.2 s' j' hm
   | _ => exact skip rfl (by simp)
def Ay (m : Pm) : V → List Lb
 | .one (.ptr b _ _) => [.box b]
 | .one (.ref a j _ _) => match m with
   | .io => [.sp a j]
   | _ => []
 | .agg cs => match m with
   | .bB => cs.filterMap fun x => match x with | .ref a j _ _ => some (.sp a j) | _ => none
   | _ => []
 | _ => []
def OW (st : St) (m : Pm × V) (av : AV) : Prop := ∃ u q r, dO st m.1 m.2 = some (av, u, q, r)
theorem HY {st : St} {own : Bool} : (cs : List CV) → {os : List OV} → {u : List (Option Lb)} → {r : List (Nat × Nat)} → eF st own cs = some (os, u, r) → ∀ (k : Nat) {a j g : Nat} , cs[k]? = some (.ref a j g .full) → os[k]? = (aQ st a j g).map fun A => bif own && A.own then .own A else .shr A.r A.xs
 | [], _, _, _, h => by intro k a j g hk; simp at hk
 | x :: cs, os, u, r, h => by
   unfold eF at h
   cases hc : fy st own x with
   | none => simp [hc] at h
   | some p =>
     obtain ⟨o, u1, r1⟩ := p
     cases hq : eF st own cs with
     | none => simp [hc, hq] at h
     | some q =>
       obtain ⟨zn, us, rs⟩ := q; simp only [hc, hq, Option.some.injEq, Prod.mk.injEq] at h; obtain ⟨rfl, rfl, _⟩ := h; intro k a j g hk
       cases k with
       | succ k => simpa using HY cs hq k (by simpa using hk)
       | zero =>
         simp only [List.getElem?_cons_zero, Option.some.injEq] at hk; subst hk; unfold fy at hc; simp only at hc
         cases hA : aQ st a j g with
         | none => simp [hA] at hc
         | some A =>
           simp only [hA] at hc
           cases hm : A.md.E2 with
           | true => simp [hm] at hc
           | false =>
           simp only [hm, cond_false, View.isFull, Bool.or_true, Bool.and_true] at hc
           cases hb : (own && A.own) <;> simp only [hb, cond_true, cond_false, Option.some.injEq, Prod.mk.injEq] at hc <;> obtain ⟨rfl, _⟩ := hc <;> simp [hb, View.app]
theorem C4 {w0 wb : World} {mu : Mu} {a : Act} {w : World} {c0 : Cz} {vL : St} {i : Nat} {As : List (Option gP)} : (cs : List CV) → (j0 : Nat) → (us : List Value) → {X : Lb → Prop} → {c : Cz} → {st aP : St} → ke X w0 mu c st a w → Fw c0 vL wb c st w →
   (∀ (k : Nat) (x : CV) (v : Value), cs[k]? = some x → us[k]? = some v → jw c0 vL wb x v) →
   (∀ (k s j g : Nat) (vw : View), cs[k]? = some (.ref s j g vw) → ∃ A B u, aQ vL s j g = some A ∧ nth As (j0 + k) = some (some B) ∧ us[k]? = some u ∧ B.r.width = A.r.width ∧ B.xs.length = A.xs.length ∧ OwnAt c w (.bG i (j0 + k)) (c0.lc s j) B u) →
   Cy st j0 cs As = some aP →
   ∃ c', ke (fun l => X l ∧ ∀ s j g vw, CV.ref s j g vw ∈ cs → l ≠ .sp s j) w0 mu c' aP a w ∧ Fw c0 vL wb c' aP w ∧ Pass c c' (fun l => ∀ y, l ≠ .bG i y)
 | [], j0, us, X, c, st, aP, h, gj, _, _, hv => by
   simp only [Cy, Option.some.injEq] at hv; subst hv; exact ⟨c, h.mono (fun l hl => ⟨hl, by simp⟩), gj, ⟨fun _ _ _ h => h, fun _ h => h⟩⟩
 | x :: cs, j0, us, X, c, st, aP, h, gj, hr, hB, hv => by
   have skip : (∀ s j g vw, x ≠ .ref s j g vw) → Cy st (j0 + 1) cs As = some aP → ∃ c', ke (fun l => X l ∧ ∀ s j g vw, CV.ref s j g vw ∈ x :: cs → l ≠ .sp s j) w0 mu c' aP a w ∧ Fw c0 vL wb c' aP w ∧ Pass c c' (fun l => ∀ y, l ≠ .bG i y) := by
     intro hx hv; obtain ⟨c', g1, g2, g3⟩ := C4 (i := i) cs (j0 + 1) us.tail h gj (fun k y v hk hv => hr (k + 1) y v (by simpa using hk) (by simpa using hv)) (fun k s j g vw hk => by
       obtain ⟨A, B, u, q1, q2, q3, q4, q5, q6⟩ := hB (k + 1) s j g vw (by simpa using hk); refine ⟨A, B, u, q1, by rw [show j0 + 1 + k = j0 + (k + 1) by omega]; exact q2, by simpa using q3, q4, q5, by rw [show j0 + 1 + k = j0 + (k + 1) by omega]; exact q6⟩) hv
     refine ⟨c', g1.mono (fun l hl => ⟨hl.1, fun s j g vw hm => ?_⟩), g2, g3⟩; rcases List.mem_cons.1 hm with e | hm
     · exact absurd e.symm (hx s j g vw)
     · exact hl.2 s j g vw hm
   cases x with
   | ref s j g vw =>
     unfold Cy at hv
     split at hv
     · rename_i B A1 Un ZL; obtain ⟨A, B', u, q1, q2, q3, q4, q5, q6⟩ := hB 0 s j g vw rfl; rw [Nat.add_zero] at q2 q6; rw [Un] at q2; simp only [Option.some.injEq] at q2; subst q2; have ZM := hr 0 _ u rfl q3; obtain ⟨A0', p1, p2, p3, p4, _⟩ := gj.refs s j g A1 ZM.2.1 ZL; rw [q1] at p1; cases p1; have hO' : OwnAt c w (.bG i j0) (c.lc s j) B u := by rw [p4]; exact q6
       obtain ⟨g1, g2⟩ := h.io ZL (q4.trans p2.symm) (q5.trans p3.symm) hO'; have Fh : ∀ b l, l ≠ .bG i j0 → c.own b = some l → (c.dP (ss i j0 s j) c.bx c.lc).own b = some l := by
         intro b l hl hb; show (c.own b).map _ = _; rw [hb]; simp only [Option.map_some, Option.some.injEq]
         cases l with
         | bG x y => simp only [ss]; rw [if_neg]; rintro ⟨rfl, rfl⟩; exact hl rfl
         | _ => rfl
       obtain ⟨c', k1, k2, k3⟩ := C4 (i := i) cs (j0 + 1) us.tail g1 (gj.trans g2) (fun k y v hk hv => hr (k + 1) y v (by simpa using hk) (by simpa using hv)) (fun k s' j' g' vw' hk => by
         obtain ⟨A, B, u, q1, q2, q3, q4, q5, q6⟩ := hB (k + 1) s' j' g' vw' (by simpa using hk); refine ⟨A, B, u, q1, by rw [show j0 + 1 + k = j0 + (k + 1) by omega]; exact q2, by simpa using q3, q4, q5, ?_⟩; rw [show j0 + 1 + k = j0 + (k + 1) by omega]; exact q6.pass (fun b hb => Fh b _ (by simp) hb) (.inl fun b hb => Cz.lH.2 hb)) hv
       refine ⟨c', k1.mono (fun l hl => ⟨hl.1.1, fun s' j' g' vw' hm => ?_⟩), k2, ⟨fun b l hl hb => k3.bG b l hl (Fh b l (hl j0) hb), fun b hb => k3.ok b (Cz.lH.2 hb)⟩⟩; rcases List.mem_cons.1 hm with e | hm
       · cases e; exact hl.1.2
       · exact hl.2 s' j' g' vw' hm
     · cases hv
   | _ => exact skip (by simp) hv
theorem C5 {w0 wb : World} {mu : Mu} {a : Act} {w : World} {c0 : Cz} {vL : St} {lc : Nat → Nat → Loc} : (ms : List (Pm × V)) → (i : Nat) → (dt : List AV) → (xs : List Value) → (es : List XV) → {X : Lb → Prop} → {c : Cz} → {st aP : St} → ke X w0 mu c st a w → Fw c0 vL wb c st w →
   (∀ (k : Nat) (m : Pm × V) (x : Value), ms[k]? = some m → xs[k]? = some x → dU c0 vL wb m.2 x) → (∀ (k : Nat) (m : Pm × V) (av : AV), ms[k]? = some m → dt[k]? = some av → OW vL m av) → ms.length = dt.length → ms.length = xs.length → (∀ (k : Nat) (m : Pm × V), ms[k]? = some m → lc (i + k) = Bw c0 m.2) →
   iq c w lc i dt xs es → tn st ms es = some aP →
   ∃ c', ke (fun l => X l ∧ ∀ m ∈ ms, l ∉ Ay m.1 m.2) w0 mu c' aP a w ∧ Fw c0 vL wb c' aP w ∧ Pass c c' (fun l => (∃ j, l = .il j) ∨ l.real = true)
 | [], i, dt, xs, es, X, c, st, aP, h, gj, _, _, _, _, _, hx, hv => by
   cases es with
   | nil =>
     simp only [tn, Option.some.injEq] at hv; subst hv; exact ⟨c, h.mono (fun l hl => ⟨hl, by simp⟩), gj, ⟨fun _ _ _ h => h, fun _ h => h⟩⟩
   | cons _ _ => simp [tn] at hv
 | (m, v) :: ms, i, [], xs, es, X, c, st, aP, h, gj, hr, he, hn, hn2, gV, hx, hv => by simp at hn
 | (m, v) :: ms, i, av :: dt, [], es, X, c, st, aP, h, gj, hr, he, hn, hn2, gV, hx, hv => by simp at hn2
 | (m, v) :: ms, i, av :: dt, x :: xs, es, X, c, st, aP, h, gj, hr, he, hn, hn2, gV, hx, hv => by
   have ZM := hr 0 (m, v) x rfl rfl; obtain ⟨u, q, r, rH⟩ := he 0 (m, v) av rfl rfl; have UJ := gV 0 (m, v) rfl; simp only [Nat.add_zero] at UJ; have hr' : ∀ (k : Nat) (m : Pm × V) (x : Value), ms[k]? = some m → xs[k]? = some x → dU c0 vL wb m.2 x := fun k m' x' h1 h2 => hr (k + 1) m' x' (by simpa using h1) (by simpa using h2)
   have Uk : ∀ (k : Nat) (m : Pm × V) (av : AV), ms[k]? = some m → dt[k]? = some av → OW vL m av := fun k m' x' h1 h2 => he (k + 1) m' x' (by simpa using h1) (by simpa using h2)
   have Uw : ∀ (k : Nat) (m : Pm × V), ms[k]? = some m → lc (i + 1 + k) = Bw c0 m.2 := fun k m' h1 => by
     have := gV (k + 1) m' (by simpa using h1)
     rwa [show i + (k + 1) = i + 1 + k by omega] at this
   have Ml : ms.length = dt.length := by simpa using hn
   have aeI : ms.length = xs.length := by simpa using hn2
   unfold tn at hv
   cases hb : rM st m v es with
   | none => simp [hb] at hv
   | some p =>
     obtain ⟨Ak, es1⟩ := p; simp only [hb] at hv; have go : ∀ {X1 : Lb → Prop} {c1 : Cz}, ke X1 w0 mu c1 Ak a w → Fw c0 vL wb c1 Ak w → (∀ l, X1 l → X l ∧ l ∉ Ay m v) → iq c1 w lc (i + 1) dt xs es1 → Pass c c1 (fun l => (∃ j, l = .il j) ∨ l.real = true) →
         ∃ c', ke (fun l => X l ∧ ∀ m' ∈ (m, v) :: ms, l ∉ Ay m'.1 m'.2) w0 mu c' aP a w ∧ Fw c0 vL wb c' aP w ∧ Pass c c' (fun l => (∃ j, l = .il j) ∨ l.real = true) := by
       intro X1 c1 g1 g2 g3 g4 g5; obtain ⟨c', k1, k2, k3⟩ := C5 ms (i + 1) dt xs es1 g1 g2 hr' Uk Ml aeI Uw g4 hv; refine ⟨c', k1.mono (fun l hl => ⟨(g3 l hl.1).1, fun m' Bs => ?_⟩), k2, ⟨fun b l hl hb => k3.bG b l hl (g5.bG b l hl hb), fun b hb => k3.ok b (g5.ok b hb)⟩⟩; rcases List.mem_cons.1 Bs with rfl | Bs
       · exact (g3 l hl.1).2
       · exact hl.2 m' Bs
     have kS : Ay m v = [] → Ak = st → es1 = es → (∃ ag os, av = .val ag os) → ∃ c', ke (fun l => X l ∧ ∀ m' ∈ (m, v) :: ms, l ∉ Ay m'.1 m'.2) w0 mu c' aP a w ∧ Fw c0 vL wb c' aP w ∧ Pass c c' (fun l => (∃ j, l = .il j) ∨ l.real = true) := by
       rintro e1 rfl rfl ⟨ag, os, rfl⟩
       exact go h gj (fun l hl => ⟨hl, by rw [e1]; simp⟩) hx ⟨fun _ _ _ h => h, fun _ h => h⟩
     cases v with
     | mz us => simp [dO] at rH
     | agg cs =>
       have qN : ∀ u q r, (match eF vL m.nz cs with | some (os, u, r) => some (AV.val true os, bF u, bF u, r) | none => none) = some (av, u, q, r) → ∃ ag os, av = .val ag os := by
         intro u q r rH
         cases hq : eF vL m.nz cs with
         | none => simp [hq] at rH
         | some p =>
           obtain ⟨os, us, rs⟩ := p; simp only [hq, Option.some.injEq, Prod.mk.injEq] at rH; exact ⟨_, _, rH.1.symm⟩
       unfold dO at rH
       cases m with
       | shr =>
         simp only [rM, Option.some.injEq, Prod.mk.injEq] at hb; exact kS rfl hb.1.symm hb.2.symm (qN _ _ _ rH)
       | own =>
         simp only [rM, Option.some.injEq, Prod.mk.injEq] at hb; exact kS rfl hb.1.symm hb.2.symm (qN _ _ _ rH)
       | pick _ =>
         simp only [rM, Option.some.injEq, Prod.mk.injEq] at hb; exact kS rfl hb.1.symm hb.2.symm (qN _ _ _ rH)
       | io =>
         simp only [rM, Option.some.injEq, Prod.mk.injEq] at hb; exact kS rfl hb.1.symm hb.2.symm (qN _ _ _ rH)
       | bB =>
         simp only at rH
         cases hq : eF vL true cs with
         | none => simp [hq] at rH
         | some p =>
           obtain ⟨os, us, rs⟩ := p; simp only [hq] at rH; obtain ⟨qK, xj⟩ := aH rH; simp only [Option.some.injEq, Prod.mk.injEq] at xj; obtain ⟨rfl, _⟩ := xj; obtain ⟨As, l, rfl, ⟨us', rfl, hX⟩, eQ⟩ := hx; unfold rM at hb; obtain ⟨gD, Fi, e2⟩ := Option.map_eq_some_iff.1 hb; injection e2 with e2 e3; subst e2 e3; obtain ⟨vs0, e0, hl0⟩ := ZM; injection e0 with e0; subst e0; obtain ⟨c1, g1, g2, g3⟩ := C4 (i := i) (As := As) cs 0 us'.toList h gj (fun k x v hk hv => hl0.2 k x v hk (by simpa using hv)) (fun k s j g vw hk => by
             have zh := List.mem_of_getElem? hk; have Es := List.all_eq_true.1 qK _ zh; unfold Ou at Es; rw [Bool.and_eq_true] at Es
             cases hA : aQ vL s j g with
             | none => rw [hA] at Es; cases Es.2
             | some A =>
               have OU : vw = .full := by
                 cases vw with
                 | full => rfl
                 | «from» _ => cases Es.1
                 | sub _ _ => cases Es.1
               subst OU; rw [hA] at Es; have ho : os[k]? = some (.own A) := by
                 have := HY cs hq k hk; rw [hA] at this; have JM : A.own = true := Es.2; simpa [JM] using this
               obtain ⟨B, u, k1, k2, k3, k4, k5⟩ := hX k A ho; refine ⟨A, B, u, rfl, by rw [Nat.zero_add]; exact k1, k2, k3, k4, ?_⟩; have : lc i k = c0.lc s j := by
                 rw [UJ]; show JP c0 cs[k]? = _; rw [hk]; rfl
               rw [← this, Nat.zero_add]; exact k5) Fi
           refine go g1 g2 (fun l hl => ⟨hl.1, fun hm => ?_⟩) ?_ ⟨fun b l hl => g3.bG b l (hl.elim (by rintro ⟨j, rfl⟩; simp) (by intro h; cases l <;> simp_all [Lb.real])), g3.ok⟩
           · obtain ⟨x, JH, Ez⟩ := List.mem_filterMap.1 hm
             cases x with
             | ref s j g vw => simp only [Option.some.injEq] at Ez; exact hl.2 s j g vw JH Ez.symm
             | _ => cases Ez
           · exact iq.pass dt (i + 1) (fun b k hk hb => g3.bG b _ (by simp) hb) (fun b k j hk hb => g3.bG b _ (by intro y; simp; omega) hb) xs _ (.inl g3.ok) eQ
     | one cx =>
       cases cx with
       | ptr b g off =>
         unfold rM at hb
         cases es with
         | nil => simp at hb
         | cons e es2 => cases e with
           | io _ => simp at hb
           | bB _ => simp at hb
           | box os =>
             simp only at hb
             split at hb
             · rename_i s0 N7 iE RH; simp only [Option.some.injEq, Prod.mk.injEq] at hb; obtain ⟨rfl, rfl⟩ := hb; have HZ : ∃ os0, av = .box os0 := by
                 unfold dO at rH; simp only at rH
                 cases hq : di vL b g with
                 | none => simp [hq] at rH
                 | some cs =>
                   simp only [hq] at rH
                   cases JI : eF vL true cs with
                   | none => simp [JI] at rH
                   | some p =>
                     obtain ⟨zn, us, rs⟩ := p; simp only [JI] at rH; obtain ⟨_, xj⟩ := aH rH; simp only [Option.some.injEq, Prod.mk.injEq] at xj; exact ⟨_, xj.1.symm⟩
               obtain ⟨os0, rfl⟩ := HZ; obtain ⟨os1, l, e1, hB, eQ⟩ := hx
               cases e1
               have hp := (gj.mr (v := x) ZM); have e2 := hp.2.2 N7 RH; have e3 : x = .pointer (some ⟨c.bx b, 0, none⟩) := by
                 obtain ⟨nB, vs, ty, q1, _⟩ := hB; rw [e2] at q1 ⊢; injection q1 with q1; injection q1 with q1; injection q1 with q1 q2; rw [q2]
               obtain ⟨c1, g1, g2, g3⟩ := h.boxed iE RH e3 hB; refine go g1 (gj.trans g2) (fun l hl => ⟨hl.1, by simp [Ay]; exact hl.2⟩) ?_ ⟨fun b l hl => g3.bG b l (hl.elim (by rintro ⟨j, rfl⟩; simp) (by intro h; cases l <;> simp_all [Lb.real])), g3.ok⟩; exact iq.pass dt (i + 1) (fun b k hk hb => g3.bG b _ (by constructor <;> simp; omega) hb) (fun b k j hk hb => g3.bG b _ (by constructor <;> simp; omega) hb) xs es2 (.inl g3.ok) eQ
             · cases hb
       | ref s j g vw =>
         have qN : m ≠ .io → ∃ ag os, av = .val ag os := by
           intro hm; unfold dO at rH
           cases m with
           | io => exact absurd rfl hm
           | shr =>
             cases hq : eF vL Pm.shr.nz [.ref s j g vw] with
             | none => simp [hq] at rH
             | some p => obtain ⟨os, us, rs⟩ := p; simp only [hq, Option.some.injEq, Prod.mk.injEq] at rH; exact ⟨_, _, rH.1.symm⟩
           | bB =>
             cases hq : eF vL Pm.bB.nz [.ref s j g vw] with
             | none => simp [hq] at rH
             | some p => obtain ⟨os, us, rs⟩ := p; simp only [hq, Option.some.injEq, Prod.mk.injEq] at rH; exact ⟨_, _, rH.1.symm⟩
           | own =>
             cases hq : eF vL Pm.own.nz [.ref s j g vw] with
             | none => simp [hq] at rH
             | some p => obtain ⟨os, us, rs⟩ := p; simp only [hq, Option.some.injEq, Prod.mk.injEq] at rH; exact ⟨_, _, rH.1.symm⟩
           | pick pl =>
             cases hq : eF vL (Pm.pick pl).nz [.ref s j g vw] with
             | none => simp [hq] at rH
             | some p => obtain ⟨os, us, rs⟩ := p; simp only [hq, Option.some.injEq, Prod.mk.injEq] at rH; exact ⟨_, _, rH.1.symm⟩
         cases m with
         | shr =>
           simp only [rM, Option.some.injEq, Prod.mk.injEq] at hb; exact kS rfl hb.1.symm hb.2.symm (qN (by simp))
         | bB =>
           simp only [rM, Option.some.injEq, Prod.mk.injEq] at hb; exact kS rfl hb.1.symm hb.2.symm (qN (by simp))
         | own =>
           simp only [rM, Option.some.injEq, Prod.mk.injEq] at hb; exact kS rfl hb.1.symm hb.2.symm (qN (by simp))
         | pick _ =>
           simp only [rM, Option.some.injEq, Prod.mk.injEq] at hb; exact kS rfl hb.1.symm hb.2.symm (qN (by simp))
         | io =>
           unfold rM at hb; simp only at hb
           split at hb
           · rename_i B es2 A2 JM; simp only [Option.some.injEq, Prod.mk.injEq] at hb; obtain ⟨rfl, rfl⟩ := hb; have HZ : ∃ A0, av = .io A0 ∧ aQ vL s j g = some A0 := by
               unfold dO at rH
               cases vw with
               | full =>
                 cases hA : aQ vL s j g with
                 | none => simp [hA] at rH
                 | some A =>
                   simp only [hA] at rH; obtain ⟨_, xj⟩ := aH rH; simp only [Option.some.injEq, Prod.mk.injEq] at xj; exact ⟨A, xj.1.symm, rfl⟩
               | «from» _ => simp at rH
               | sub _ _ => simp at rH
             obtain ⟨A0, rfl, JF⟩ := HZ; obtain ⟨B', l, e1, hw, hlen, hO, eQ⟩ := hx
             cases e1
             obtain ⟨A0', q1, q2, q3, q4, _⟩ := gj.refs s j g A2 ZM.2.1 JM; rw [JF] at q1; cases q1; have hO' : OwnAt c w (.bG i 0) (c.lc s j) B x := by
               rw [q4]; have : lc i 0 = c0.lc s j := by rw [UJ]; rfl
               rw [← this]; exact hO
             obtain ⟨g1, g2⟩ := h.io JM (hw.trans q2.symm) (hlen.trans q3.symm) hO'; have Fh : ∀ b l, (∀ y, l ≠ .bG i y) → c.own b = some l → (c.dP (ss i 0 s j) c.bx c.lc).own b = some l := by
               intro b l hl hb; show (c.own b).map _ = _; rw [hb]; simp only [Option.map_some, Option.some.injEq]
               cases l with
               | bG x y => simp only [ss]; rw [if_neg]; rintro ⟨rfl, _⟩; exact hl y rfl
               | _ => rfl
             refine go g1 (gj.trans g2) (fun l hl => ⟨hl.1, by simp [Ay]; exact hl.2⟩) ?_ ⟨fun b l hl => Fh b l (hl.elim (by rintro ⟨j, rfl⟩; simp) (by intro h; cases l <;> simp_all [Lb.real])), fun b hb => Cz.lH.2 hb⟩; exact iq.pass dt (i + 1) (fun b k hk hb => Fh b _ (by simp) hb) (fun b k j hk hb => Fh b _ (by intro y; simp; omega) hb) xs es2 (.inl fun b hb => Cz.lH.2 hb) eQ
           · cases hb
       | _ =>
         simp only [rM, Option.some.injEq, Prod.mk.injEq] at hb; refine kS rfl hb.1.symm hb.2.symm ?_; unfold dO at rH; simp only at rH
         split at rH
         · simp only [Option.some.injEq, Prod.mk.injEq] at rH; exact ⟨_, _, rH.1.symm⟩
         · cases rH
end Go.TM
namespace Go.TM
open Go Go.RowKit
def zt (d : Nat) : Lb → Lb
 | .il j => .sp d j
 | l => l
theorem xw (d : Nat) : Bx (zt d) := ⟨fun l h => by cases l <;> simp [zt, Lb.real] at h ⊢⟩
theorem uW : (os ps : List OV) → aY (os ++ ps) = aY os ++ aY ps
 | [], ps => rfl
 | o :: os, ps => by simp [aY, uW os ps]
theorem lI : (os : List OV) → (aY os).length = os.length
 | [] => rfl
 | o :: os => by simp [aY, lI os]
theorem OX (d g j : Nat) (o : OV) : ∃ x, aV d g j [o] = [x] := by
 cases o <;> exact ⟨_, rfl⟩
theorem lg.vals {c : Cz} {w : World} : (rs : List RV) → (j : Nat) → (vs : List Value) → lg c w j rs vs →
   ∃ lcs : Nat → Loc, (∀ k A, nth (aY (rs.flatMap RV.vp)) k = some (some A) → ∃ v, OwnAt c w (.il (j + k)) (lcs (j + k)) A v) ∧ rs.length = vs.length ∧ (∀ d g, (j2 d g j rs).length = rs.length) ∧
     ∀ (c2 : Cz) (gD : St) (d g : Nat), (∀ b, c.ok b → c2.ok b) → (∀ k, k < (rs.flatMap RV.vp).length → c2.lc d (j + k) = lcs (j + k)) → (∀ k A, k < (rs.flatMap RV.vp).length → aQ gD d (j + k) g = some A → nth (aY (rs.flatMap RV.vp)) k = some (some A)) → g ≤ cQ gD d →
       ∀ (k : Nat) (x : V) (v : Value), (j2 d g j rs)[k]? = some x → vs[k]? = some v → yV c2 gD w x v
 | [], j, vs, h => by
   subst h; exact ⟨fun _ => .nil, fun k A hA => by simp [aY] at hA, rfl, fun _ _ => rfl, fun _ _ _ _ _ _ _ _ k x v hx => by simp [j2] at hx⟩
 | r :: rs, j, vs, h => by
   obtain ⟨v, l, us, rfl, hL, hR, hV⟩ : ∃ (v : Value) (l us : List Value), vs = v :: l ∧ bc c w .il j r.vp us ∧ lg c w (j + r.vp.length) rs l ∧
       (∀ (c2 : Cz) (gD : St) (d g : Nat), eH c2 gD w (aV d g j r.vp) us → yV c2 gD w (Ol d g j r) v) := by
     cases r with
     | one o =>
       obtain ⟨v, l, h1, h2, h3⟩ := h; refine ⟨v, l, [v], h1, h2, h3, fun c2 gD d g hl => ?_⟩; unfold Ol; obtain ⟨x, hx⟩ := OX d g j o; show yV c2 gD w (match aV d g j [o] with | [c] => .one c | _ => .one .bad) v; have hl : eH c2 gD w (aV d g j [o]) [v] := hl; rw [hx] at hl ⊢; exact hl.2 0 x v rfl rfl
     | agg os =>
       obtain ⟨us, l, h1, h2, h3⟩ := h; exact ⟨.agg us, l, us.toList, h1, h2, h3, fun c2 gD d g hl => ⟨us, rfl, hl⟩⟩
     | ptr os =>
       obtain ⟨v, l, h1, ⟨nB, us, ty, _, _, _, g4⟩, h3⟩ := h; exact ⟨v, l, .slice none 0 0 :: us.toList, h1, ⟨_, rfl, g4⟩, h3, fun _ _ _ _ _ => trivial⟩
   obtain ⟨l1, a1, a2⟩ := bc.cells r.vp j us hL; obtain ⟨l2, b1, b2, b3, b4⟩ := lg.vals rs (j + r.vp.length) l hR; have Ti : aY ((r :: rs).flatMap RV.vp) = aY r.vp ++ aY (rs.flatMap RV.vp) := by
     rw [List.flatMap_cons, uW]
   refine ⟨fun k => if k < j + r.vp.length then l1 k else l2 k, fun k A hA => ?_, by simp [b2], fun d g => by simp [j2, b3], fun c2 gD d g fH gV Au hg k x v' hx nv => ?_⟩
   · rw [Ti, lX, lI] at hA
     by_cases e : k < r.vp.length
     · rw [if_pos e] at hA; have := a1 k A hA; show ∃ v, OwnAt c w _ (if j + k < _ then _ else _) A v; rw [if_pos (by omega)]; exact this
     · rw [if_neg e] at hA; have := b1 _ A hA; rw [show j + r.vp.length + (k - r.vp.length) = j + k by omega] at this; show ∃ v, OwnAt c w _ (if j + k < _ then _ else _) A v; rw [if_neg (by omega)]; exact this
   · rw [Ti] at Au; rw [List.flatMap_cons, List.length_append] at gV Au
     cases k with
     | zero =>
       simp only [j2, List.getElem?_cons_zero, Option.some.injEq] at hx nv; subst hx nv; refine hV c2 gD d g (a2 c2 gD d g fH (fun k hk => ?_) (fun k A hk hA => ?_) hg)
       · have : c2.lc d (j + k) = if j + k < j + r.vp.length then l1 (j + k) else l2 (j + k) := gV k (by omega)
         rwa [if_pos (by omega)] at this
       · have := Au k A (by omega) hA
         rwa [lX, lI, if_pos hk] at this
     | succ k =>
       refine b4 c2 gD d g fH (fun k hk => ?_) (fun k A hk hA => ?_) hg k x v' (by simpa [j2] using hx) (by simpa using nv)
       · have : c2.lc d (j + (r.vp.length + k)) = if j + (r.vp.length + k) < j + r.vp.length then l1 (j + (r.vp.length + k)) else l2 (j + (r.vp.length + k)) := gV (r.vp.length + k) (by omega)
         rw [if_neg (by omega)] at this; rw [Nat.add_assoc]; exact this
       · rw [Nat.add_assoc] at hA; have := Au (r.vp.length + k) A (by omega) hA
         rwa [lX, lI, if_neg (by omega), Nat.add_sub_cancel_left] at this
def tH (d : Nat) : Lb → Lb
 | .il 0 => .box d
 | .il (j + 1) => .sp d (j + 1)
 | l => l
theorem xx (d : Nat) : Bx (tH d) := ⟨fun l h => by
 cases l with
 | il j => cases j <;> simp [tH, Lb.real] at h ⊢
 | _ => simp [tH, Lb.real] at h ⊢⟩
theorem ke.RI {X : Lb → Prop} {w0 : World} {mu : Mu} {c : Cz} {st : St} {a : Act} {w : World} (h : ke X w0 mu c st a w) {d : Nat} {s0 : Sl} {os : List OV} {v : Value} (iE : nth st d = some s0)
   (hv : ∃ nB us ty, v = .pointer (some ⟨nB, 0, none⟩) ∧ c.own nB = some (.il 0) ∧ w.heap[nB]? = some (.cells us ty (0, 0)) ∧ bc c w .il 1 os us.toList) (hd : d < a.tmps.size) :
   ∃ c', ke X w0 mu c' (mq (fun s => { s with v := .one (.ptr d (s.bg + 1) 0), box := some (aV d (s.ag + 1) 1 os), bg := s.bg + 1, aK := none :: aY os, ag := s.ag + 1 }) st d) (a.put (some d) v) w ∧
     Fw c st w c' (mq (fun s => { s with v := .one (.ptr d (s.bg + 1) 0), box := some (aV d (s.ag + 1) 1 os), bg := s.bg + 1, aK := none :: aY os, ag := s.ag + 1 }) st d) w ∧ ∀ b l, l.real = true → c.own b = some l → c'.own b = some l := by
 obtain ⟨nB, us, ty, rfl, eW, OY, hL⟩ := hv; obtain ⟨lcs, g1, g2⟩ := bc.cells os 1 _ hL
 let c' := c.dP (tH d) (fun s => if s = d then nB else c.bx s) (fun s j => if s = d then lcs j else c.lc s j)
 let aP := mq (fun s => { s with v := .one (.ptr d (s.bg + 1) 0), box := some (aV d (s.ag + 1) 1 os), bg := s.bg + 1, aK := none :: aY os, ag := s.ag + 1 }) st d
 have hn : ∀ s, nth aP s = if s = d then some { s0 with v := .one (.ptr d (s0.bg + 1) 0), box := some (aV d (s0.ag + 1) 1 os), bg := s0.bg + 1, aK := none :: aY os, ag := s0.ag + 1 } else nth st s := by
   intro s; show nth (mq _ st d) s = _; rw [dn]
   by_cases e : s = d
   · subst e; rw [if_pos rfl, if_pos rfl, iE]; rfl
   · rw [if_neg e, if_neg e]
 have Aw : cQ aP d = s0.ag + 1 := by unfold cQ; rw [hn]; simp
 have HS : cQ st d = s0.ag := by unfold cQ; rw [iE]
 have Tj : fM aP d = s0.bg + 1 := by unfold fM; rw [hn]; simp
 have UK : fM st d = s0.bg := by unfold fM; rw [iE]
 have ht := xx d; have gj : Fw c st w c' aP w := {
   stays := nK c w _ _ _
   refs := fun a' j' g' A' hg dQ => by
     obtain ⟨sl, k1, k2, k3⟩ := ba dQ; rw [hn] at k1
     by_cases e : a' = d
     · rw [if_pos e] at k1
       cases k1
       subst e; simp only at k2; omega
     · rw [if_neg e] at k1; exact ⟨A', ob k1 k2 k3, rfl, rfl, by show (if a' = d then _ else _) = _; rw [if_neg e], fun _ => ⟨rfl, fun _ _ _ _ => rfl⟩⟩
   B8 := fun b' g' mA hg JD => by
     obtain ⟨sl, k1, k2, k3⟩ := gU JD; rw [hn] at k1
     by_cases e : b' = d
     · rw [if_pos e] at k1
       cases k1
       subst e; simp only at k2; omega
     · rw [if_neg e] at k1; exact ⟨⟨mA, by unfold di; rw [k1]; simp [k2, k3]⟩, by show (if b' = d then _ else _) = _; rw [if_neg e]⟩
   gA := fun a' => by
     by_cases e : a' = d
     · subst e; rw [Aw, HS]; omega
     · unfold cQ; rw [hn, if_neg e]; exact Nat.le_refl _
   gB := fun a' => by
     by_cases e : a' = d
     · subst e; rw [Tj, UK]; omega
     · unfold fM; rw [hn, if_neg e]; exact Nat.le_refl _
   gE := fun a' => by
     by_cases e : a' = d
     · subst e; unfold lT; rw [hn, if_pos rfl, iE]; exact Nat.le_refl _
     · unfold lT; rw [hn, if_neg e]; exact Nat.le_refl _ }
 have HT : ∀ k A, aQ aP d (1 + k) (s0.ag + 1) = some A → nth (aY os) k = some (some A) := by
   intro k A hA; obtain ⟨sl, k1, k2, k3⟩ := ba hA; rw [hn, if_pos rfl] at k1
   cases k1
   rw [show 1 + k = k + 1 by omega] at k3; exact k3
 have sN : ∀ t, dU c' aP w (bK aP t) ((a.put (some d) (.pointer (some ⟨nB, 0, none⟩))).eval (.tmp t)) := by
   intro t; rw [eval_put]
   by_cases e : t = d
   · subst e; rw [if_pos ⟨rfl, hd⟩]; have : bK aP t = .one (.ptr t (s0.bg + 1) 0) := by unfold bK; rw [hn, if_pos rfl]
     rw [this]; refine ⟨rfl, by rw [Tj]; exact Nat.le_refl _, fun cs _ => ?_⟩; show _ = Value.pointer (some ⟨(if t = t then nB else c.bx t), 0, none⟩); rw [if_pos rfl]
   · rw [if_neg (by rintro ⟨e2, _⟩; exact e (Option.some.inj e2).symm)]; have : bK aP t = bK st t := by unfold bK; rw [hn, if_neg e]
     rw [this]; exact gj.mr (h.eI t)
 refine ⟨c', ⟨sN, fun s sl cs hX hs hb => ?_, fun s j sl A hX hs hA => ?_, fun b l hb => ?_, fun b hb h1 => h.free b hb (by unfold Cz.ok at *; simpa [c', Cz.dP] using h1), h.kept, h.old, by simpa [Act.put] using h.plain, fun p hp => gj.dJ (h.dJ p hp)⟩, gj, fun b l hl hb => ?_⟩
 case refine_4 =>
   show (c.own b).map (tH d) = _; rw [hb]; simp [(xx d).other l (.inr hl)]
 · rw [hn] at hs
   by_cases e : s = d
   · subst e; rw [if_pos rfl] at hs
     cases hs
     simp only [Option.some.injEq] at hb; subst hb; refine ⟨?_, us, ty, by show w.heap[if s = s then nB else c.bx s]? = _; rw [if_pos rfl]; exact OY, ?_⟩
     · show (c.own (if s = s then nB else c.bx s)).map (tH s) = some (.box s); rw [if_pos rfl, eW]; rfl
     · exact g2 c' aP s (s0.ag + 1) (fun b hb => Cz.lH.2 hb) (fun k _ => by show (if s = s then _ else _) = _; rw [if_pos rfl]) (fun k A _ hA => HT k A hA) (by rw [Aw]; exact Nat.le_refl _)
   · rw [if_neg e] at hs; exact (h.boxes s sl cs hX hs hb).dP ht gj (by show (if s = d then _ else _) = _; rw [if_neg e])
 · rw [hn] at hs
   by_cases e : s = d
   · subst e; rw [if_pos rfl] at hs
     cases hs
     cases j with
     | zero => simp [nth] at hA
     | succ j =>
       obtain ⟨v', nv⟩ := g1 j A hA; rw [show 1 + j = j + 1 by omega] at nv; exact nv.arr (by simp) (by simp [tH])
   · rw [if_neg e] at hs; exact (h.aK s j sl A hX hs hA).dP ht (by simp [e])
 · simp only [c', Cz.dP, Option.map_eq_some_iff] at hb; obtain ⟨k, hk, e⟩ := hb; obtain ⟨h1, h2⟩ := h.owned b k hk; refine ⟨h1, h2.imp (fun e2 => ?_) id⟩; subst e2; rw [← e]; rfl
theorem GD {st : St} {d : Nat} {outs : List RV} (h : ∀ os, outs ≠ [.ptr os]) : vq st (some d) outs = match nth st d with
   | some s => some (mq (fun sl => { sl with v := (match j2 d (s.ag + 1) 0 outs with | [v] => v | vs => .mz vs), aK := aY (outs.flatMap RV.vp), ag := s.ag + 1 }) st d)
   | none => none := by
 unfold vq; simp only
 cases nth st d with
 | none => rfl
 | some s =>
   cases outs with
   | nil => rfl
   | cons r l => cases l with
     | cons _ _ => cases r <;> rfl
     | nil => cases r with
       | one o => rfl
       | agg os => rfl
       | ptr os => exact absurd rfl (h os)
theorem ke.laid {X : Lb → Prop} {w0 : World} {mu : Mu} {c : Cz} {st : St} {a : Act} {w : World} (h : ke X w0 mu c st a w) {d : Option Nat} {outs : List RV} {v : Value} (hv : qJ c w outs v) {aP : St} (hl : vq st d outs = some aP) (hd : ∀ k, d = some k → k < a.tmps.size) :
   ∃ c', ke X w0 mu c' aP (a.put d v) w ∧ Fw c st w c' aP w ∧ ∀ b l, l.real = true → c.own b = some l → c'.own b = some l := by
 cases d with
 | none =>
   cases outs with
   | nil =>
     simp only [vq, Option.some.injEq] at hl; subst hl; exact ⟨c, h, Fw.refl c st w, fun _ _ _ h => h⟩
   | cons _ _ => simp [vq] at hl
 | some d =>
   by_cases hp : ∃ os, outs = [.ptr os]
   · obtain ⟨os, rfl⟩ := hp; unfold vq at hl; simp only at hl
     cases iE : nth st d with
     | none => simp [iE] at hl
     | some s0 =>
       simp only [iE, Option.some.injEq] at hl; subst hl; refine h.RI iE ?_ (hd d rfl); rcases hv with ⟨r, h1, h2⟩ | ⟨h1, _⟩
       · simp only [List.cons.injEq, and_true] at h1; subst h1; obtain ⟨v', l, e1, h3, _⟩ := h2; simp only [List.cons.injEq] at e1; rw [e1.1]; exact h3
       · exact absurd rfl h1
   rw [GD (fun os e => hp ⟨os, e⟩)] at hl
   cases iE : nth st d with
   | none => simp [iE] at hl
   | some s0 =>
     simp only [iE, Option.some.injEq] at hl; obtain ⟨vs, hR, hVV⟩ : ∃ vs, lg c w 0 outs vs ∧ ∀ (c2 : Cz) (gD : St) (g : Nat), (j2 d g 0 outs).length = vs.length → (∀ (k : Nat) (x : V) (u : Value), (j2 d g 0 outs)[k]? = some x → vs[k]? = some u → yV c2 gD w x u) →
         dU c2 gD w (match j2 d g 0 outs with | [v] => v | vs => .mz vs) v := by
       rcases hv with ⟨r, rfl, h2⟩ | ⟨h1, vs, rfl, h2⟩
       · refine ⟨[v], h2, fun c2 gD g hlen vM => ?_⟩; exact HN (vM 0 _ v rfl rfl)
       · refine ⟨vs.toList, h2, fun c2 gD g hlen vM => ?_⟩; have UL : dU c2 gD w (.mz (j2 d g 0 outs)) (.tuple vs) := ⟨vs, rfl, by simpa using hlen, fun i x y hx hy => vM i x y hx (by simpa using hy)⟩
         split
         · rename_i x hx; obtain ⟨_, _, _, b3, _⟩ := lg.vals outs 0 vs.toList h2; have := b3 d g; rw [hx] at this; exact absurd this.symm h1
         · exact UL
     obtain ⟨lcs, g1, g2, g3, g4⟩ := lg.vals outs 0 vs hR
     let c' := c.dP (zt d) c.bx (fun s j => if s = d then lcs j else c.lc s j)
     let V0 := (match j2 d (s0.ag + 1) 0 outs with | [v] => v | vs => .mz vs)
     have hn : ∀ s, nth aP s = if s = d then some { s0 with v := V0, aK := aY (outs.flatMap RV.vp), ag := s0.ag + 1 } else nth st s := by
       intro s; rw [← hl, dn]
       by_cases e : s = d
       · subst e; rw [if_pos rfl, if_pos rfl, iE]; rfl
       · rw [if_neg e, if_neg e]
     have Aw : cQ aP d = s0.ag + 1 := by unfold cQ; rw [hn]; simp
     have HS : cQ st d = s0.ag := by unfold cQ; rw [iE]
     have ht := xw d; have gj : Fw c st w c' aP w := {
       stays := nK c w _ _ _
       refs := fun a' j' g' A' hg dQ => by
         obtain ⟨sl, k1, k2, k3⟩ := ba dQ; rw [hn] at k1
         by_cases e : a' = d
         · rw [if_pos e] at k1
           cases k1
           subst e; simp only at k2; omega
         · rw [if_neg e] at k1; exact ⟨A', ob k1 k2 k3, rfl, rfl, by show (if a' = d then _ else _) = _; rw [if_neg e], fun _ => ⟨rfl, fun _ _ _ _ => rfl⟩⟩
       B8 := fun b' g' mA hg JD => by
         obtain ⟨sl, k1, k2, k3⟩ := gU JD; rw [hn] at k1
         by_cases e : b' = d
         · rw [if_pos e] at k1
           cases k1
           subst e; exact ⟨⟨mA, by unfold di; rw [iE]; simp at k2 k3; simp [k2, k3]⟩, rfl⟩
         · rw [if_neg e] at k1; exact ⟨⟨mA, by unfold di; rw [k1]; simp [k2, k3]⟩, rfl⟩
       gA := fun a' => by
         by_cases e : a' = d
         · subst e; rw [Aw, HS]; omega
         · unfold cQ; rw [hn, if_neg e]; exact Nat.le_refl _
       gB := fun a' => by
         by_cases e : a' = d
         · subst e; unfold fM; rw [hn, if_pos rfl, iE]; exact Nat.le_refl _
         · unfold fM; rw [hn, if_neg e]; exact Nat.le_refl _
       gE := fun a' => by
         by_cases e : a' = d
         · subst e; unfold lT; rw [hn, if_pos rfl, iE]; exact Nat.le_refl _
         · unfold lT; rw [hn, if_neg e]; exact Nat.le_refl _ }
     have HT : ∀ k A, aQ aP d k (s0.ag + 1) = some A → nth (aY (outs.flatMap RV.vp)) k = some (some A) := by
       intro k A hA; obtain ⟨sl, k1, k2, k3⟩ := ba hA; rw [hn, if_pos rfl] at k1
       cases k1
       exact k3
     have sN : ∀ t, dU c' aP w (bK aP t) ((a.put (some d) v).eval (.tmp t)) := by
       intro t; rw [eval_put]
       by_cases e : t = d
       · subst e; rw [if_pos ⟨rfl, hd t rfl⟩]; have : bK aP t = V0 := by unfold bK; rw [hn, if_pos rfl]
         rw [this]; refine hVV c' aP (s0.ag + 1) (by rw [g3, g2]) (g4 c' aP t (s0.ag + 1) (fun b hb => Cz.lH.2 hb) (fun k _ => ?_) (fun k A _ hA => HT k A (by simpa using hA)) (by rw [Aw]; exact Nat.le_refl _)); show (if t = t then _ else _) = _; rw [if_pos rfl]
       · rw [if_neg (by rintro ⟨e2, _⟩; exact e (Option.some.inj e2).symm)]; have : bK aP t = bK st t := by unfold bK; rw [hn, if_neg e]
         rw [this]; exact gj.mr (h.eI t)
     refine ⟨c', ⟨sN, fun s sl cs hX hs hb => ?_, fun s j sl A hX hs hA => ?_, fun b l hb => ?_, fun b hb h1 => h.free b hb (by unfold Cz.ok at *; simpa [c', Cz.dP] using h1), h.kept, h.old, by simpa [Act.put] using h.plain, fun p hp => gj.dJ (h.dJ p hp)⟩, gj, fun b l hl hb => ?_⟩
     case refine_4 =>
       show (c.own b).map (zt d) = _; rw [hb]; simp [(xw d).other l (.inr hl)]
     · rw [hn] at hs
       by_cases e : s = d
       · subst e; rw [if_pos rfl] at hs
         cases hs
         exact (h.boxes s s0 cs hX iE hb).dP ht gj rfl
       · rw [if_neg e] at hs; exact (h.boxes s sl cs hX hs hb).dP ht gj rfl
     · rw [hn] at hs
       by_cases e : s = d
       · subst e; rw [if_pos rfl] at hs
         cases hs
         obtain ⟨v', nv⟩ := g1 j A hA; exact nv.arr (by simp) (by simp [zt])
       · rw [if_neg e] at hs; exact (h.aK s j sl A hX hs hA).dP ht (by simp [e])
     · simp only [c', Cz.dP, Option.map_eq_some_iff] at hb; obtain ⟨k, hk, e⟩ := hb; obtain ⟨h1, h2⟩ := h.owned b k hk; refine ⟨h1, h2.imp (fun e2 => ?_) id⟩; subst e2; rw [← e]; rfl
end Go.TM
