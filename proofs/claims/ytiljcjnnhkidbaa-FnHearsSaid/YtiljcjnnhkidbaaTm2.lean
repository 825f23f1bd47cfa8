/- A machine over trees: an evaluator of the code, and that what it finds is so; part 2. -/
import Derived.Test.YtiljcjnnhkidbaaTm1
import Derived.Laws.MakeOwn
import Derived.Great.BuildSlice
import Derived.Laws.Cover3
import Derived.Laws.BytesString
import Derived.Tactics
namespace Go.TM
open Go Go.RowKit
theorem tw {b : Bool} {t e : N} {y : St} (h : (N.br b t e).val = some y) : (b = true ∧ t.val = some y) ∨ (b = false ∧ e.val = some y) := by
 cases b
 · exact .inr ⟨rfl, h⟩
 · exact .inl ⟨rfl, h⟩
theorem eI {b : Bool} {t : N} {y : St} (h : (N.br b t N.fail).val = some y) : b = true ∧ t.val = some y := by
 rcases tw h with h | ⟨_, h⟩
 · exact h
 · simp [N.val] at h
theorem Ck {st : St} {y : V} {b k : Nat} {B : fK} (h : Kk st y = some (b, k, B)) : ∃ g, y = .one (.ref b k g .full) ∧ aQ st b k g = some B ∧ B.own = true ∧ B.md = .dp := by
 unfold Kk at h
 split at h
 · rename_i a' j' g
   cases hA : aQ st a' j' g with
   | none => rw [hA] at h; cases h
   | some A =>
     rw [hA] at h; obtain ⟨h1, h2⟩ := aD h; rw [Bool.and_eq_true] at h1; simp only [Option.some.injEq, Prod.mk.injEq] at h2; obtain ⟨rfl, rfl, rfl⟩ := h2; exact ⟨g, rfl, hA, h1.1, Md.kh.1 h1.2⟩
 · cases h
theorem yJ {c : Cz} {w : World} {s j : Nat} {A : fK} (h : bA c w s j A) (ho : A.own = true) (hm : A.md = .dp) {v : Value} (hv : gP (c.lc s j) A.r.width 0 A.xs.length v) :
   ∃ (g : Nat → List Nat) (vs : List Value) (xb : Option Nat), cg w (fun p k => c.own k = some (.sp s j) ∧ g k = p) A.r 0 vs A.xs ∧ (∀ b, xb = some b → c.own b = some (.sp s j) ∧ g b = []) ∧
     ((xb = none ∧ v = .slice none 0 0 ∧ A.xs.length = 0) ∨ ∃ b off lo cap n ad cur te, xb = some b ∧ v = .slice (some ad) A.xs.length n ∧ A.xs.length ≤ n ∧ lo + n ≤ cap ∧ (n ≠ 0 → ad = ⟨b, off + lo * A.r.width, none⟩) ∧
     w.heap[b]? = some (.cells cur te (0, 0)) ∧ off + cap * A.r.width ≤ cur.size ∧ w.rangeAt b (off + lo * A.r.width) vs) := by
 unfold bA at h
 cases hl : c.lc s j with
 | nil =>
   rw [hl] at h hv; refine ⟨fun _ => [], [], none, by rw [h]; rfl, (fun b e => by cases e), .inl ⟨rfl, hv.1, hv.2⟩⟩
 | «at» b off cap =>
   rw [hl] at h hv; obtain ⟨h0, h2, ⟨cur, te, h3, h4⟩, h5⟩ := h; rw [ho] at h0; unfold bh at h5; rw [hm] at h5; obtain ⟨g, g1, g2⟩ := h5; obtain ⟨ad, n, e, k1, k2, k3⟩ := hv; obtain ⟨vs, q1, q2⟩ := yI b off 0 A.xs (fun i x hx => by rw [Nat.zero_add]; exact g2 i x hx); exact ⟨g, vs, some b, q2, (fun b' e => by cases e; exact ⟨h0, g1⟩), .inr ⟨b, off, 0, cap, n, ad, cur, te, rfl, e, k1, by omega, k3, h3, h4, by simpa using q1⟩⟩
def Qo (n : Nat) : List Nat → List Nat
 | [] => []
 | i :: l => (i + n) :: l
theorem Ej {P : Program} {T : jb} (hT : fh P T) {w0 : World} {mu : Mu} {c : Cz} {st : St} {a : Act} {w : World} (h : Rel w0 mu c st a w)
   {d : Option Nat} {t ty : Nat} {r : RT} {bytes : Nat} (ht : T.elem t = some (r, bytes)) {x : V} {ux uy : Value} {b k gb : Nat} {B : fK} {ys : List (ak r)} (hx : dV c st w x ux) (hy : ir c st w (.ref b k gb .full) uy) (hB : aQ st b k gb = some B) (TO : B.own = true) (Qp : B.md = .dp)
   (TP : bn r B.xs = some ys) {aP : St} (hv : (zR st d r bytes x b k ys).val = some aP) (hd : ∀ k, d = some k → k < a.tmps.size) :
   ∃ v w', (Builtin.append_ #[t, t] ty #[ux, uy]).run P w = .ok v w' ∧ ∃ c', Rel w0 mu c' aP (a.put d v) w' := by
 obtain ⟨e, he⟩ := aX TP; subst e; simp only at he; subst he; obtain ⟨gy, vy, yb, D4, hyb, hyc⟩ := yJ (h.qG hB) TO Qp (hy.2.2 B hB); have Nn : (B.xs.length = 0 ∧ (uy = .slice none 0 0 ∨ ∃ a c, uy = .slice (some a) 0 c)) ∨ (B.xs.length ≠ 0 ∧ ∃ a c, uy = .slice (some a) B.xs.length c ∧ ∀ (j : Nat) v, vy[j]? = some v → w.cell? (a.add j) = some v) := by
   rcases hyc with ⟨_, e1, e2⟩ | ⟨b', off, lo, cap, n, ad, cur, te, _, e1, e2, e3, e4, e5, e6, e7⟩
   · exact .inl ⟨e2, .inl e1⟩
   · by_cases h0 : B.xs.length = 0
     · exact .inl ⟨h0, .inr ⟨ad, n, by rw [e1, h0]⟩⟩
     · refine .inr ⟨h0, ad, n, e1, fun j v hv => ?_⟩; rw [e4 (by omega), Addr.add_mid]; exact e7 j v hv
 unfold zR at hv
 split at hv
 · -- behind nothing
   obtain ⟨hb, hv⟩ := eI hv; obtain ⟨kk, s0, rfl, gm, rfl⟩ := kF hv; obtain ⟨zx, qC, _, _, _⟩ := jw [(b, k)] h; have hR := zx.gJ qC kk 0; refine Cj hT hR ht (xs := []) (ys := B.xs) (vx := []) (vy := vy) (PX := fun _ _ => False) (PY := fun p q => c.own q = some (.sp b k) ∧ gy q = p) (g := gy) (xb := none) gm (hd kk rfl) (Nat.le_of_ble_eq_true hb) rfl D4 (fun _ _ _ h => h.elim) (fun i q k' hk => ⟨by simp, Cz.la (n := (b, k)) (by simp) hk.1, by simpa using hk.2⟩) Nn (fun _ e => by cases e) (.inl ⟨rfl, hx, rfl⟩)
 · rename_i a' j g vw
   split at hv
   · rename_i A SL; obtain ⟨g2, e1, hA, hAo, hAm⟩ := Ck SL; injection e1 with e1; injection e1 with q1 q2 q3 q4; subst q1 q2 q3 q4
     cases oQ : bn B.r A.xs with
     | none => rw [oQ] at hv; simp [N.val] at hv
     | some xs =>
       rw [oQ] at hv; simp only at hv; obtain ⟨fk, hv⟩ := cQ hv; obtain ⟨hb, hv⟩ := eI hv; obtain ⟨kk, s0, rfl, gm, rfl⟩ := kF hv; obtain ⟨r0, Gm, m6, Qq⟩ := A; obtain ⟨e, he⟩ := aX oQ; simp only at e; subst e; simp only at he; subst he; have KC : Lb.sp a' j ≠ Lb.sp b k := by
         intro e; injection e with e1 e2; subst e1 e2; simp at fk
       obtain ⟨gx, vx, xb, FZ, IY, hxc⟩ := yJ (h.qG hA) hAo hAm (hx.2.2 _ hA); obtain ⟨zx, qC, _, _, _⟩ := jw [(a', j), (b, k)] h; have hR := zx.gJ qC kk 0; have Ae : ∀ q, c.own q = some (.sp a' j) → (c.gJ [(a', j), (b, k)] (.sp kk 0)).own q = some (.sp kk 0) := fun q hq => Cz.la (n := (a', j)) (by simp) hq
       classical
       refine Cj hT hR ht (xs := xs) (ys := B.xs) (vx := vx) (vy := vy) (PX := fun p q => c.own q = some (.sp a' j) ∧ gx q = p) (PY := fun p q => c.own q = some (.sp b k) ∧ gy q = p)
         (g := fun q => if c.own q = some (.sp b k) then Qo xs.length (gy q) else gx q) (xb := xb) gm (hd kk rfl) (Nat.le_of_ble_eq_true hb) FZ D4 (fun i q k' hk => ⟨?_, Ae _ hk.1, ?_⟩) (fun i q k' hk => ⟨?_, Cz.la (n := (b, k)) (by simp) hk.1, ?_⟩) Nn (fun b' e => Ae _ (IY b' e).1) ?_
       · intro e; have := (IY k' e).2; rw [hk.2] at this; simp at this
       · rw [if_neg]
         · exact hk.2
         · rw [hk.1]; intro e; exact KC (Option.some.inj e)
       · intro e; have := (IY k' e).1; rw [hk.1] at this; exact KC (Option.some.inj this).symm
       · rw [if_pos hk.1, hk.2]; rfl
       · exact hxc
   · simp [N.val] at hv
 · simp [N.val] at hv
theorem Af {P : Program} {T : jb} (hT : fh P T) {w0 : World} {mu : Mu} {c : Cz} {st : St} {a : Act} {w : World} (h : Rel w0 mu c st a w)
   {d : Option Nat} {t ty : Nat} {x y : V} {ux uy : Value} (hx : dV c st w x ux) (hy : dV c st w y uy) {aP : St} (hv : (zE T st d t x y).val = some aP) (hd : ∀ k, d = some k → k < a.tmps.size) :
   ∃ v w', (Builtin.append_ #[t, t] ty #[ux, uy]).run P w = .ok v w' ∧ ∃ c', Rel w0 mu c' aP (a.put d v) w' := by
 unfold zE at hv
 cases ht : T.elem t with
 | none => simp [ht, N.val] at hv
 | some p =>
   obtain ⟨r, bytes⟩ := p; simp only [ht] at hv
   cases SL : Kk st y with
   | some q =>
     obtain ⟨b, k, B⟩ := q; rw [SL] at hv; simp only at hv; obtain ⟨gb, rfl, hB, TO, Qp⟩ := Ck SL
     cases TP : bn r B.xs with
     | none => rw [TP] at hv; simp [N.val] at hv
     | some ys =>
       rw [TP] at hv; exact Ej hT h ht hx hy hB TO Qp TP hv hd
   | none =>
   rw [SL] at hv; simp only at hv; have tail : ∀ (xs : List (ak r)) (used : List (Nat × Nat)), (match y with
         | .one c => jP st r c fun ys => N.br (Nat.ble ((xs.length + ys.length) * bytes) lim)
             (bj (used.foldl (fun (s : St) (p : Nat × Nat) => bf s p.1 p.2 none) st) d { r := r, own := true, xs := xs ++ ys }) .fail
         | _ => N.fail).val = some aP →
       ∃ ys k s0, d = some k ∧ nth (used.foldl (fun (s : St) (p : Nat × Nat) => bf s p.1 p.2 none) st) k = some s0 ∧ (xs.length + ys.length) * bytes ≤ lim ∧ SK w c.ok r uy ys ∧
         aP = kP (fun s => { s with v := .one (.ref k 0 (s0.ag + 1) .full), aI := [some { r := r, own := true, xs := xs ++ ys }], ag := s0.ag + 1 }) (used.foldl (fun (s : St) (p : Nat × Nat) => bf s p.1 p.2 none) st) k := by
     intro xs used hv
     cases y with
     | agg _ => simp [N.val] at hv
     | kV _ => simp [N.val] at hv
     | one cy =>
       obtain ⟨ys, hv, hr⟩ := yF h hy hv; obtain ⟨hb, hv⟩ := eI hv; obtain ⟨k, s0, hk, gm, qn⟩ := kF hv; exact ⟨ys, k, s0, hk, gm, Nat.le_of_ble_eq_true hb, hr, qn⟩
   cases x with
   | agg _ => simp [N.val] at hv
   | kV _ => simp [N.val] at hv
   | one cx => cases cx with
     | di =>
       obtain ⟨ys, k, s0, rfl, gm, hb, hr, rfl⟩ := tail [] [] hv; exact Ci hT h ht gm (hd k rfl) hb hr (.inl ⟨hx, rfl⟩)
     | ref a' j g vw =>
       simp only at hv
       cases hA : aQ st a' j g with
       | none => simp [hA, N.val] at hv
       | some A =>
         simp only [hA] at hv; obtain ⟨eH, hv⟩ := cQ hv; rw [Bool.and_eq_true] at eH; have uV := Md.kh.1 eH.2; have eH := eH.1
         cases hc : bn r A.xs with
         | none => simp [hc, N.val] at hv
         | some xs =>
           simp only [hc] at hv; obtain ⟨e, he⟩ := aX hc; subst e; simp only at he; subst he; obtain ⟨ys, k, s0, rfl, gm, hb, hr, rfl⟩ := tail (vw.app A.xs) [(a', j)] hv; obtain ⟨zx, qC⟩ := h.kill a' j; obtain ⟨sl, zV, Nk, zW⟩ := a7 hA; have Ed := h.aI a' j sl A zV zW; have hs := hx.2.2 A hA; refine Ci hT zx ht gm (hd k rfl) hb hr ?_
           cases hl : c.lc a' j with
           | nil =>
             unfold gP at hs; rw [hl] at hs; exact .inl ⟨hs.1, List.length_eq_zero_iff.1 hs.2⟩
           | «at» b off cap =>
             unfold gP at hs; rw [hl] at hs; obtain ⟨ad, n, rfl, hn, wS, D5⟩ := hs; unfold bA at Ed; rw [hl] at Ed; obtain ⟨ho, _, Yj, eG⟩ := Ed; rw [eH] at ho; exact .inr ⟨a', j, b, off, vw.lo, cap, n, ad, ho, qC, rfl, hn, wS, D5, Yj, fun i x hi => (bh.sh uV).1 eG _ x (View.uD vw A.xs hi)⟩
     | _ => simp [N.val] at hv
theorem tz {w : World} {ok : Nat → Prop} : (r : RT) → (vs : List Value) → gI r vs → bZ w ok r vs (qE r)
 | .nil, vs, h => h
 | .cons (.int k) r, vs, ⟨l, h, h'⟩ => ⟨.int k 0, l, h, oM.2 rfl, tz r l h'⟩
 | .cons .bool r, vs, ⟨l, h, h'⟩ => ⟨.bool false, l, h, pZ.2 rfl, tz r l h'⟩
 | .cons .str r, vs, ⟨l, h, h'⟩ => ⟨.string ByteArray.empty, l, h, ti.2 rfl, tz r l h'⟩
 | .cons (.sl q) r, vs, ⟨l, h, h'⟩ => ⟨.slice none 0 0, l, h, (lM _ _ _ _ _).2 (.inl ⟨rfl, rfl⟩), tz r l h'⟩
theorem aY.replicate {w : World} {ok : Nat → Prop} {r : RT} {vs : List Value} {x : ak r} (h : bZ w ok r vs x) : (n : Nat) → aY w ok r ((List.replicate n vs).flatten) (List.replicate n x)
 | 0 => rfl
 | n + 1 => ⟨vs, (List.replicate n vs).flatten, by simp [List.replicate_succ], h, aY.replicate h n⟩
theorem Ag (z : Array Value) (n W : Nat) (hz : z.size = W) (hW : 0 < W) : ((Array.range (n * W)).map (z[· % z.size]!)).toList = (List.replicate n z.toList).flatten := by
 subst hz
 induction n with
 | zero => simp
 | succ n ih =>
   have e1 : ((Array.range ((n + 1) * z.size)).map (z[· % z.size]!)).toList = ((Array.range (n * z.size)).map (z[· % z.size]!)).toList ++ z.toList := by
     apply List.ext_getElem
     · simp [Nat.add_mul]
     · intro k h1 h2; simp only [Array.getElem_toList, Array.getElem_map, Array.getElem_range]; rw [List.getElem_append]
       by_cases hk : k < n * z.size
       · rw [dif_pos (by simpa using hk)]; simp
       · rw [dif_neg (by simpa using hk)]; have qC : k < (n + 1) * z.size := by simpa using h1
         rw [Nat.add_mul, Nat.one_mul] at qC; have hm : k % z.size = k - n * z.size := by
           have : k = (k - n * z.size) + n * z.size := by omega
           rw [this, Nat.add_mul_mod_self_right, Nat.mod_eq_of_lt (by omega)]; omega
         have bP : k - n * z.size < z.size := by omega
         simp [hm, bP]
   rw [e1, ih]; rw [List.replicate_succ', List.flatten_append]; simp
theorem KD {P : Program} {T : jb} (hT : fh P T) {w0 : World} {mu : Mu} {c : Cz} {st : St} {a : Act} {w : World} (h : Rel w0 mu c st a w)
   {d : Option Nat} {t : Nat} {x y : V} {ux uy : Value} (hx : dV c st w x ux) (hy : dV c st w y uy) {aP : St} (hv : (Kl T st d t x y).val = some aP) (hd : ∀ k, d = some k → k < a.tmps.size) :
   ∃ v w', (Instr.makeSlice t ux uy).run P w = .ok v w' ∧ gr w w' ∧ ∃ c', Rel w0 mu c' aP (a.put d v) w' := by
 unfold Kl at hv
 split at hv
 · rename_i r bytes n m ht; obtain ⟨J5, hv⟩ := eI hv; obtain ⟨hn, hv⟩ := eI hv; obtain ⟨hb, hv⟩ := eI hv; obtain ⟨k, s0, rfl, gm, rfl⟩ := kF hv; have J5 := of_decide_eq_true J5; have hn := of_decide_eq_true hn; have hb := Nat.le_of_ble_eq_true hb; subst J5; obtain ⟨n, rfl⟩ := Int.eq_ofNat_of_zero_le hn; obtain ⟨e, i, z, hu, hi, jv, BN, TL, H5, hz, IX⟩ := hT.elem t r bytes ht; have Ei : z.cells.size = r.width := by have := gI.length r _ IX; simpa using this
   have e1 : ux = .int .i64 n := hx; have e2 : uy = .int .i64 n := hy; subst e1 e2; unfold lim at hb; simp only [Int.toNat_natCast] at hb; have Xs : n ≤ 35184372088832 := by
     have : n * 1 ≤ n * bytes := Nat.mul_le_mul_left _ H5; omega
   have abD : IntKind.i64.wrap (n : Int) = n := by
     have := IntKind.wrap_i64 (n : Int); rw [this]; omega
   have mz : (Instr.makeSlice t (.int .i64 n) (.int .i64 n)).run P w =
       .ok (.slice (some ⟨w.heap.size, 0, none⟩) n n) (w.alloc (.cells ((Array.range (n * r.width)).map (z.cells[· % z.cells.size]!)) e (0, 0))) := by
     have := run_make (P := P) w t e i z hu hi hz .i64 .i64 n n (by omega) (Int.le_refl _) (by
       have h2 : ((i.bytes * n : Nat) : Int) ≤ 281474976710656 := by rw [TL, Nat.mul_comm]; omega
       rwa [Int.natCast_mul] at h2) (by omega)
     simpa [madeCells, jv] using this
   refine ⟨_, _, mz, gr.alloc _ _, ?_⟩
   cases SL : T.dp t with
   | true =>
     have := h.Di (r := r) (P := fun _ _ => False) (g := fun _ => []) (xs := List.replicate n (qE r)) (cur := (Array.range (n * r.width)).map (z.cells[· % z.cells.size]!)) (ty := e) (cap := n) gm (hd k rfl) (by simp) (by simp) (cg.replicate (fun i => tv r [i] 0 _ IX) n 0) (fun _ _ _ h => h.elim) (by
       rw [← Ag z.cells n r.width Ei BN, List.take_length])
     simpa using this
   | false =>
   have vm : aY w c.ok r ((List.replicate n z.cells.toList).flatten) (List.replicate n (qE r)) := aY.replicate (tz r _ IX) n; have := h.fresh (r := r) (xs := List.replicate n (qE r)) (cur := (Array.range (n * r.width)).map (z.cells[· % z.cells.size]!)) (ty := e) (cap := n) gm (hd k rfl) (by simp) (by simp) vm (by
     rw [← Ag z.cells n r.width Ei BN, List.take_length])
   simpa using this
 · simp [N.val] at hv
end Go.TM
namespace Go.TM
open Go Go.RowKit
theorem w7 (off : Nat) : (l : List Value) → (k : Nat) → (cells : Array Value) → off + k + l.length ≤ cells.size →
   ((l.zipIdx k).foldl (fun cs (p : Value × Nat) => cs.setIfInBounds (off + p.2) p.1) cells).toList = bp cells.toList (off + k) l
 | [], k, cells, _ => by simp [bp]
 | v :: l, k, cells, h => by
   simp only [List.zipIdx_cons, List.foldl_cons, List.length_cons] at h ⊢; rw [w7 off l (k + 1) _ (by simp; omega)]; rw [Array.toList_setIfInBounds]; apply List.ext_getElem?; intro q; rw [jf (by simp; omega), jf (by simp; omega), List.getElem?_set]; simp only [List.length_cons]
   by_cases h1 : off + (k + 1) ≤ q ∧ q < off + (k + 1) + l.length
   · rw [if_pos h1, if_pos (by omega)]; rw [show q - (off + k) = (q - (off + (k + 1))) + 1 by omega, List.getElem?_cons_succ]
   · rw [if_neg h1]
     by_cases h2 : off + k = q
     · subst h2; rw [if_pos rfl, if_pos (by simp; omega), if_pos (by omega)]; simp
     · rw [if_neg h2, if_neg (by omega)]
theorem x3 {place : Nat → Option (Nat × Nat)} {cells : Array Value} {i : Nat} {v : Value} {rest : List (Nat × Value)} {off size : Nat} (hp : place i = some (off, size)) (hv : v.cells.size = size) (hle : off + size ≤ cells.size) :
   Instr.fill place cells ((i, v) :: rest) = Instr.fill place (bp cells.toList off v.cells.toList).toArray rest := by
 have hf := w7 off v.cells.toList 0 cells (by simp; omega); have e : (v.cells.zipIdx.foldl (fun cs (p : Value × Nat) => cs.setIfInBounds (off + p.2) p.1) cells) = (bp cells.toList off v.cells.toList).toArray := by
   apply Array.ext'; rw [← Array.foldl_toList, Array.toList_zipIdx]; simpa using hf
 conv => lhs; unfold Instr.fill
 simp only [hp]; rw [if_neg (by simp; omega)]; exact congrArg (fun cs => Instr.fill place cs rest) e
def mA (c : Cz) (st : St) (w : World) (ps : List (Nat × V)) (us : List (Nat × Value)) : Prop :=
 ps.length = us.length ∧ ∀ (i : Nat) p u, ps[i]? = some p → us[i]? = some u → p.1 = u.1 ∧ dV c st w p.2 u.2
theorem mA.cons {c : Cz} {st : St} {w : World} {p : Nat × V} {u : Nat × Value} {ps : List (Nat × V)} {us : List (Nat × Value)} (h : mA c st w (p :: ps) (u :: us)) :
   (p.1 = u.1 ∧ dV c st w p.2 u.2) ∧ mA c st w ps us :=
 ⟨h.2 0 p u rfl rfl, by have := h.1; simpa using this, fun i a b ha hb => h.2 (i + 1) a b (by simpa using ha) (by simpa using hb)⟩
theorem w8 {w0 : World} {mu : Mu} {c : Cz} {st : St} {a : Act} {w : World} (h : Rel w0 mu c st a w) {r : RT} (hW : 0 < r.width) : (ps : List (Nat × V)) → (us : List (Nat × Value)) → mA c st w ps us →
   (i : Nat) → (k : List (ak r) → List (Nat × Nat) → N) → {aP : St} → (uC st r i ps k).val = some aP → (cells : Array Value) → cells.size = (i + ps.length) * r.width →
   ∃ xs m, (k xs m).val = some aP ∧ xs.length = ps.length ∧ (∀ p ∈ m, ∃ g A, aQ st p.1 p.2 g = some A) ∧
     ∃ vs : List Value, vs.length = ps.length * r.width ∧ Instr.fill (fun i => some (i * r.width, r.width)) cells us = some (cells.toList.take (i * r.width) ++ vs).toArray ∧
     ∀ ok : Nat → Prop, (∀ b, c.ok b → ok b) → (∀ p ∈ m, ∀ b, c.own b = some (.sp p.1 p.2) → ok b) → aY w ok r vs xs
 | [], us, hp, i, k, aP, hv, cells, jv => by
   have : us = [] := by have := hp.1; simp at this; exact List.length_eq_zero_iff.1 this.symm
   subst this; refine ⟨[], [], hv, rfl, fun p hp => by simp at hp, [], by simp, ?_, fun _ _ _ => rfl⟩; simp only [Instr.fill, List.append_nil]; simp at jv; rw [List.take_of_length_le (by simp; omega)]
 | (p, v) :: ps, us, hp, i, k, aP, hv, cells, jv => by
   cases us with
   | nil => have := hp.1; simp at this
   | cons u us =>
     obtain ⟨⟨OU, SM⟩, jh⟩ := hp.cons; simp only [uC] at hv; obtain ⟨hc, hv⟩ := cQ hv; rw [Bool.and_eq_true] at hc; have Qr := Nat.eq_of_beq_eq_true hc.2; obtain ⟨oQ, _⟩ := SM.cells hc.1; obtain ⟨x, m1, h1, h2, h3⟩ := wU h r v.cells _ oQ _ hv; have hlen : u.2.cells.toList.length = r.width := by
       have := h3 (fun _ => True) (fun _ _ => trivial) (fun _ _ _ _ => trivial); exact bZ.length r _ x this
     simp only [List.length_cons] at jv; have hm1 : (i + (ps.length + 1)) * r.width = i * r.width + r.width + ps.length * r.width := by rw [Nat.add_mul, Nat.add_mul]; omega
     have hle : i * r.width + r.width ≤ cells.size := by omega
     have Ek := x3 (place := fun i => some (i * r.width, r.width)) (cells := cells) (i := i) (v := u.2) (rest := us) rfl (by simpa using hlen) hle; obtain ⟨xs, m2, g1, g2, g3, vs, g4, g5, g6⟩ := w8 h hW ps us jh (i + 1) _ h1 (bp cells.toList (i * r.width) u.2.cells.toList).toArray (by
       rw [List.size_toArray, fw (by simp at hlen ⊢; omega)]; simp; rw [jv]; congr 1; omega)
     refine ⟨x :: xs, m1 ++ m2, g1, by simp [g2], fun q hq => ?_, u.2.cells.toList ++ vs, by simp at hlen ⊢; rw [hlen, g4, Nat.add_mul]; omega, ?_, fun ok ho hm => ⟨_, vs, rfl, h3 ok ho (fun q hq => hm q (by simp [hq])), g6 ok ho (fun q hq => hm q (by simp [hq]))⟩⟩
     · rcases List.mem_append.1 hq with hq | hq
       · exact h2 q hq
       · exact g3 q hq
     · have e : (u : Nat × Value) = (i, u.2) := by rw [← Qr]; simp at OU; rw [OU]
       rw [e, Ek, g5]
       congr 2
       rw [← List.append_assoc]
       congr 1
       show List.take ((i + 1) * r.width) (bp cells.toList (i * r.width) u.2.cells.toList) = _; unfold bp; rw [Nat.add_mul, Nat.one_mul]; rw [List.take_append_of_le_length (by simp at hlen ⊢; omega)]; rw [List.take_of_length_le (by simp at hlen ⊢; omega)]
theorem Ah {P : Program} {T : jb} (hT : fh P T) {w0 : World} {mu : Mu} {c : Cz} {st : St} {a : Act} {w : World} (h : Rel w0 mu c st a w)
   {d : Option Nat} {t len : Nat} {ps : List (Nat × V)} {us : Array (Nat × Value)} (hp : mA c st w ps us.toList) {aP : St} (hv : (tg T st d t len ps).val = some aP) (hd : ∀ k, d = some k → k < a.tmps.size) :
   ∃ v w', (Instr.buildSlice t len us).run P w = .ok v w' ∧ gr w w' ∧ ∃ c', Rel w0 mu c' aP (a.put d v) w' := by
 unfold tg at hv
 cases ht : T.elem t with
 | none => simp [ht, N.val] at hv
 | some p =>
   obtain ⟨r, bytes⟩ := p; simp only [ht] at hv; obtain ⟨hc, hv⟩ := cQ hv; rw [Bool.and_eq_true] at hc; have hlen := Nat.eq_of_beq_eq_true hc.1; have Yk := Nat.le_of_ble_eq_true hc.2; obtain ⟨e, i, z, hu, hi, jv, BN, TL, H5, hz, IX⟩ := hT.elem t r bytes ht; have Ei : z.cells.size = r.width := by have := gI.length r _ IX; simpa using this
   cases KE : (bif T.dp t then Ga st r ps else none) with
   | some pq =>
     obtain ⟨x1, m⟩ := pq; rw [KE] at hv; simp only at hv; obtain ⟨hdi, hv⟩ := cQ hv; obtain ⟨k, s0, rfl, gm, rfl⟩ := kF hv; obtain ⟨_, KE⟩ := aD KE; unfold Ga at KE
     split at KE
     · -- no row
       simp only [Option.some.injEq, Prod.mk.injEq] at KE; obtain ⟨rfl, rfl⟩ := KE; have H3 : len = 0 := by simpa using hlen.symm
       subst H3; have Gn : us = #[] := by have := hp.1; simp at this; exact Array.eq_empty_of_size_eq_zero this.symm
       subst Gn; have Ai : (Instr.buildSlice t 0 #[]).run P w = .ok (.slice (some ⟨w.heap.size, 0, none⟩) 0 0) (w.alloc (.cells #[] e (0, 0))) := by
         simp [Instr.buildSlice, run_underlying hu, sizeOf, typeInfo, hi, Instr.fill, newRow, show Array.range 0 = #[] from rfl]
       have J6 := h.Di (r := r) (P := fun _ _ => False) (g := fun _ => []) (xs := []) (cur := #[]) (ty := e) (cap := 0) gm (hd k rfl) (by simp) (by simp) (vs := []) rfl (fun _ _ _ h => h.elim) rfl; exact ⟨_, _, Ai, gr.alloc _ _, J6⟩
     · rename_i i0 v0 _; obtain ⟨Yl, IZ⟩ := aD KE; clear KE; rw [Bool.and_eq_true] at Yl; obtain ⟨x2, Ym, BO⟩ : ∃ x2, fF st r v0.cells = some (x2, m) ∧ x1 = [x2] := by
         cases hq : fF st r v0.cells with
         | none => rw [hq] at IZ; cases IZ
         | some q =>
           rw [hq] at IZ; simp only [Option.some.injEq, Prod.mk.injEq] at IZ; exact ⟨q.1, by rw [← IZ.2], IZ.1.symm⟩
       subst BO; have TQ := Nat.eq_of_beq_eq_true Yl.2; subst TQ; obtain ⟨⟨i1, u1⟩, Gn⟩ : ∃ u1, us.toList = [u1] := by
         have := hp.1
         match hl : us.toList with
         | [] => rw [hl] at this; simp at this
         | [u1] => exact ⟨u1, rfl⟩
         | _ :: _ :: _ => rw [hl] at this; simp at this
       obtain ⟨OU, SM⟩ := hp.2 0 (0, v0) (i1, u1) rfl (by rw [Gn]; rfl); simp only at OU SM; subst OU; obtain ⟨oQ, BM⟩ := SM.cells Yl.1; obtain ⟨NF, hmo, G, hG⟩ := w6 h r v0.cells _ oQ Ym; have Gj := ld hdi; obtain ⟨zx, qC, _, _, _⟩ := jw (dj m) h; have hR := zx.gJ qC k 0; have TR : len = 1 := by simpa using hlen.symm
       subst TR; have hD := hG (fun p k => (∃ n ∈ dj m, c.own k = some (.sp n.1 n.2)) ∧ ∀ (col : Nat) (n : Nat × Nat), m[col]? = some (some n) → c.own k = some (.sp n.1 n.2) → p = [0] ++ [col] ++ G col k) [0] 0 (fun col n k hc hk => ⟨⟨n, jg hc, hk⟩, fun Yd n' h1 h2 => by
         rw [hk] at h2; injection h2 with h2; injection h2 with q1 q2; have : n = n' := Prod.ext q1 q2; subst this; rw [rD Gj h1 hc, Nat.zero_add]⟩)
       have FY := cF.length r _ _ _ _ hD; obtain ⟨g', _, p2⟩ := xZ (c := c) Gj G (fun _ => []) [0] .out (fun n _ => by simp); have Ek := x3 (place := fun i => some (i * r.width, r.width)) (cells := (Array.range (1 * r.width)).map (z.cells[· % z.cells.size]!)) (i := 0) (v := u1) (rest := []) rfl (by simpa using FY) (by simp); have Ai : (Instr.buildSlice t 1 us).run P w = .ok (.slice (some ⟨w.heap.size, 0, none⟩) 1 1) (w.alloc (.cells u1.cells e (0, 0))) := by
         refine run_buildSlice (P := P) w t e 1 us u1.cells i z hu hi hz (by rw [jv]; omega) (by rw [jv]; intro h; rcases Nat.mul_eq_zero.1 h with h | h <;> omega) ?_; rw [Gn, jv, Ek]; simp only [Instr.fill]
         congr 1
         apply Array.ext'; show bp _ _ _ = _; unfold bp; rw [List.drop_eq_nil_of_le (by simp at FY ⊢; omega)]; simp
       have J6 := hR.Di (r := r) (xs := [x2]) (cur := u1.cells) (ty := e) (cap := 1) (g := g') gm (hd k rfl) (by simp) (by simp at FY ⊢; omega) (vs := u1.cells.toList) ⟨_, [], by simp, hD, rfl⟩ (fun i q k hk => by
         obtain ⟨⟨n, hn, zx⟩, qC⟩ := hk; obtain ⟨col, hc⟩ := vE hn; refine ⟨Cz.la hn zx, ?_⟩; rw [p2 col n k hc zx]; exact (qC col n hc zx).symm) (List.take_length)
       exact ⟨_, _, Ai, gr.alloc _ _, J6⟩
     · cases KE
   | none =>
   rw [KE] at hv; simp only at hv; obtain ⟨xs, m, h1, h2, h3, vs, h4, h5, h6⟩ := w8 h BN ps us.toList hp 0 _ hv ((Array.range (len * r.width)).map (z.cells[· % z.cells.size]!)) (by simp [hlen]); obtain ⟨k, s0, rfl, gm, rfl⟩ := kF h1; have vm : aY w (c.drop m).ok r vs xs := h6 _ (fun b hb => Cz.wT m c b hb) (fun p hp k hk => Cz.zG m c k hk hp); have hxl : xs.length = len := by rw [h2, hlen]
   have Ai : (Instr.buildSlice t len us).run P w = .ok (.slice (some ⟨w.heap.size, 0, none⟩) len len) (w.alloc (.cells vs.toArray e (0, 0))) := by
     simp only [Nat.zero_mul, List.take_zero, List.nil_append] at h5
     by_cases h0 : len = 0
     · subst h0; have NG : ps = [] := List.length_eq_zero_iff.1 hlen; subst NG; have Gn : us = #[] := by have := hp.1; simp at this; exact Array.eq_empty_of_size_eq_zero this.symm
       subst Gn; have wZ : vs = [] := by simp at h4; exact h4
       subst wZ; simp [Instr.buildSlice, run_underlying hu, sizeOf, typeInfo, hi, Instr.fill, newRow, show Array.range 0 = #[] from rfl]
     · refine run_buildSlice (P := P) w t e len us vs.toArray i z hu hi hz (by rw [jv]; omega) (by rw [jv]; intro h; rcases Nat.mul_eq_zero.1 h with h | h <;> omega) ?_; rw [jv]; exact h5
   have J6 := (h.freeze m).fresh (r := r) (xs := xs) (cur := vs.toArray) (ty := e) (cap := len) gm (hd k rfl) (by omega) (by simp [h4, hlen]) vm (by simp); rw [hxl] at J6; exact ⟨_, _, Ai, gr.alloc _ _, J6⟩
theorem gI.rel {c : Cz} {st : St} {w : World} : (r : RT) → (vs : List Value) → gI r vs → ek c st w ((dm r (qE r)).map fun | .shr _ _ => .di | c => c) vs
 | .nil, vs, h => by simp only [gI] at h; subst h; exact ⟨rfl, fun i x v hx => by simp [dm] at hx⟩
 | .cons t r, vs, h => by
   have key : ∃ v l x, vs = v :: l ∧ gI r l ∧ ((fun | .shr _ _ => .di | c => c : CV → CV) (F6 t (F4 t))) = x ∧ ir c st w x v := by
     cases t with
     | int k => obtain ⟨l, h, h'⟩ := h; exact ⟨_, l, _, h, h', rfl, rfl⟩
     | bool => obtain ⟨l, h, h'⟩ := h; exact ⟨_, l, _, h, h', rfl, rfl⟩
     | str => obtain ⟨l, h, h'⟩ := h; exact ⟨_, l, _, h, h', rfl, rfl⟩
     | sl q => obtain ⟨l, h, h'⟩ := h; exact ⟨_, l, _, h, h', rfl, rfl⟩
   obtain ⟨v, l, x, rfl, hl, hx, hr⟩ := key; obtain ⟨h1, h2⟩ := gI.rel (c := c) (st := st) (w := w) r l hl; refine ⟨by simp [dm] at h1 ⊢; exact h1, fun i y u hy hu => ?_⟩
   cases i with
   | zero =>
     simp [dm, qE] at hy hu; subst hu; rw [← hy]; have : (match F6 t (F4 t) with | .shr _ _ => CV.di | c => c) = x := hx; rw [this]; exact hr
   | succ i => exact h2 i y u (by simpa [dm, qE] using hy) (by simpa using hu)
theorem tC {c : Cz} {st : St} {w : World} {r : RT} {vs : List Value} (h : gI r vs) : ek c st w (lV r) vs := gI.rel r vs h
theorem w9 {P : Program} {T : jb} {c : Cz} {st : St} {w : World} {t : Nat} {bL : List (Nat × Nat)} (NH : ∀ f o s, T.off t f = some o → T.Tz t f = some s → bL[f]? = some (o, s)) :
   (ps : List (Nat × V)) → (us : List (Nat × Value)) → mA c st w ps us → (cs l : List CV) → (cells : Array Value) → ek c st w cs cells.toList → lX T t cs ps = some l →
   ∃ rf, Instr.fill (bL.toArray[·]?) cells us = some rf ∧ ek c st w l rf.toList
 | [], us, hp, cs, l, cells, hl, h => by
   have : us = [] := by have := hp.1; simp at this; exact List.length_eq_zero_iff.1 this.symm
   subst this; simp only [lX, Option.some.injEq] at h; subst h; exact ⟨cells, rfl, hl⟩
 | (f, v) :: ps, us, hp, cs, l, cells, hl, h => by
   cases us with
   | nil => have := hp.1; simp at this
   | cons u us =>
     obtain ⟨⟨OU, SM⟩, jh⟩ := hp.cons; simp only [lX] at h
     cases ho : T.off t f with
     | none => simp [ho] at h
     | some o =>
       cases hs : T.Tz t f with
       | none => simp [ho, hs] at h
       | some s =>
         simp only [ho, hs] at h; obtain ⟨hc, h⟩ := aD h; rw [Bool.and_eq_true] at hc; obtain ⟨oQ, _⟩ := SM.cells hc.1; have hlen : v.cells.length = s := Nat.eq_of_beq_eq_true hc.2
         cases Yn : putCells cs o v.cells with
         | none => simp [Yn] at h
         | some lF =>
           simp only [Yn] at h; obtain ⟨hle, rfl⟩ := vj Yn; have h1 := hl.1; have h2 := oQ.1; have Ek := x3 (place := (bL.toArray[·]?)) (cells := cells) (i := f) (v := u.2) (rest := us) (off := o) (size := s) (by simpa using NH f o s ho hs) (by simp at h2; omega) (by simp at h1 h2; omega); obtain ⟨rf, g1, g2⟩ := w9 (P := P) NH ps us jh _ l (bp cells.toList o u.2.cells.toList).toArray (by simpa using hl.bp oQ o hle) h; refine ⟨rf, ?_, g2⟩; have e : (u : Nat × Value) = (f, u.2) := by simp at OU; rw [OU]
           rw [e, Ek]; exact g1
theorem KG {P : Program} {T : jb} (hT : fh P T) {w0 : World} {mu : Mu} {c : Cz} {st : St} {a : Act} {w : World} (h : Rel w0 mu c st a w)
   {d : Option Nat} {t : Nat} {r : RT} {ps : List (Nat × V)} {us : Array (Nat × Value)} {l : List CV} (hr : T.row t = some r) (hg : T.agg t = true) (hp : mA c st w ps us.toList)
   (hf : lX T t (lV r) ps = some l) (hd : ∀ k, d = some k → k < a.tmps.size) :
   ∃ v, (∀ w' : World, (Instr.build t us).run P w' = .ok v w') ∧ Rel w0 mu c (aT st d (.agg l)) (a.put d v) w := by
 obtain ⟨i, z, hi, hz, IX⟩ := hT.row t r hr; obtain ⟨fs, bL, hu, NH, hpo⟩ := hT.bld t hg; obtain ⟨rf, g1, g2⟩ := w9 (P := P) (c := c) (st := st) (w := w) hpo ps us.toList hp (lV r) l z.cells (tC IX) hf; refine ⟨.agg rf, fun w' => run_build w' t us rf ?_, h.aT ⟨rf, rfl, g2⟩ hd⟩; unfold Program.built; simp only [hi, hu, hz, NH]; exact g1
end Go.TM
namespace Go.TM
open Go Go.RowKit
theorem KH {P : Program} {w : World} {op : BinOp} {t : TypeId} {k : IntKind} {a b : Int} {r : Bool} (h : Kh op a b = some r) :
   (binOp op t (.int k a) (.int k b)).run P w = .ok (.bool r) w := by
 cases op <;> simp only [Kh, Option.some.injEq, reduceCtorEq] at h <;> subst h <;> unfold binOp Op.intCmp <;> simp <;> rfl
theorem Gp {P : Program} {w : World} {op : BinOp} {t : TypeId} {k : IntKind} {a b n : Int} (h : zP op k a b = some n) :
   (binOp op t (.int k a) (.int k b)).run P w = .ok (.int k n) w := by
 cases op <;> simp [zP] at h <;> subst h <;> simp [binOp, Op.intArith, Op.intBits]
theorem KI {P : Program} {w : World} {op : BinOp} {t : TypeId} {k : IntKind} {a b n : Int} (h : Ki op k a b = some n) (hb : b ≠ 0) :
   (binOp op t (.int k a) (.int k b)).run P w = .ok (.int k n) w := by
 cases op <;> simp [Ki] at h <;> subst h <;> simp [binOp, Op.intDiv, hb]
theorem Gq {P : Program} {w : World} {op : BinOp} {t : TypeId} {k l : IntKind} {a b n : Int} (h : zQ op k a b.toNat = some n) (hb : 0 ≤ b) :
   (binOp op t (.int k a) (.int l b)).run P w = .ok (.int k n) w := by
 have kj : ¬ b < 0 := by omega
 cases op <;> simp [zQ] at h <;> subst h <;> simp [binOp, Op.shift, kj]
theorem jR {P : Program} {w : World} (op : BinOp) (t : TypeId) (x y : Operand) (a b : Value) (h : ¬ (a = .nilIface ∧ b = .nilIface)) (h2 : ∀ l m, ¬ (a = .agg l ∧ b = .agg m)) :
   (eqGuard op t x y a b).run P w = .ok () w := by
 unfold eqGuard
 cases op <;> cases a <;> cases b <;> simp_all
theorem NI {P : Program} {T : jb} (hT : fh P T) {w0 : World} {mu : Mu} {c : Cz} {st : St} {a : Act} {w : World} (h : Rel w0 mu c st a w) (hE : ∀ t, T.eq t = true → ∀ (l m : List CV) (us vs : Array Value) (b : Bool) (op : BinOp) (ox oy : Operand), T.fits t l = true → kX l m = some b →
     ek c st w l us.toList → ek c st w m vs.toList → ∀ w' : World, (eqGuard op t ox oy (.agg us) (.agg vs)).run P w' = .ok () w' ∧ (Op.equal t (.agg us) (.agg vs)).run P w' = .ok b w')
   {d : Option Nat} {t : Nat} {op : BinOp} {ox oy : Operand} {x y : V} {ux uy : Value} (hx : dV c st w x ux) (hy : dV c st w y uy) {aP : St} (hv : (sY T st d op t x y).val = some aP) (hd : ∀ k, d = some k → k < a.tmps.size) :
   ∃ v, (∀ w' : World, (do eqGuard op t ox oy ux uy; binOp op t ux uy : Sem Value).run P w' = .ok v w') ∧ Rel w0 mu c aP (a.put d v) w := by
 have fin : ∀ (cv : CV) (v : Value), ir c st w cv v → (N.done (aT st d (.one cv))).val = some aP → (∀ w' : World, (eqGuard op t ox oy ux uy).run P w' = .ok () w') → (∀ w' : World, (binOp op t ux uy).run P w' = .ok v w') →
     ∃ v, (∀ w' : World, (do eqGuard op t ox oy ux uy; binOp op t ux uy : Sem Value).run P w' = .ok v w') ∧ Rel w0 mu c aP (a.put d v) w := by
   intro cv v hr qn hg hb; simp only [N.val, Option.some.injEq] at qn; subst qn; refine ⟨v, fun w' => ?_, h.aT hr hd⟩; simp [Sem.run_bind, hg, hb]
 cases x with
 | kV _ => simp [sY, N.val] at hv
 | agg l => cases y with
   | kV _ => simp [sY, N.val] at hv
   | one _ => simp [sY, N.val] at hv
   | agg m =>
     obtain ⟨us, rfl, hl⟩ := hx; obtain ⟨vs, rfl, hm⟩ := hy; simp only [sY] at hv; obtain ⟨ht, hv⟩ := cQ hv; rw [Bool.and_eq_true] at ht; obtain ⟨ht, oQ⟩ := ht
     cases hc : kX l m with
     | none => cases op <;> simp [hc, N.val] at hv
     | some b =>
       have g := hE t ht l m us vs b op ox oy oQ hc hl hm
       cases op <;> simp only [hc] at hv <;> try (simp [N.val] at hv; done)
       · exact fin (.bool b) (.bool b) rfl hv (fun w' => (g w').1) (fun w' => by simp [binOp, Sem.run_bind, (g w').2])
       · exact fin (.bool (!b)) (.bool (!b)) rfl hv (fun w' => (g w').1) (fun w' => by simp [binOp, Sem.run_bind, (g w').2])
 | one cx => cases y with
   | kV _ => cases cx <;> simp [sY, N.val] at hv
   | agg _ => cases cx <;> simp [sY, N.val] at hv
   | one cy =>
     cases cx <;> cases cy <;> try (simp [sY, N.val] at hv; done)
     · rename_i k p l q; have e1 : ux = .int k p := hx; have e2 : uy = .int l q := hy; subst e1 e2; have hg := fun w' => jR (P := P) (w := w') op t ox oy (.int k p) (.int l q) (by simp) (by simp)
       simp only [sY] at hv
       by_cases hs : op = .shl ∨ op = .shr
       · have lH : (match zQ op k p q.toNat with | some n => N.br (decide (0 ≤ q)) (.done (aT st d (.one (.int k n)))) .fail | none => .fail).val = some aP := by
           rcases hs with rfl | rfl <;> exact hv
         cases Yo : zQ op k p q.toNat with
         | none => simp [Yo, N.val] at lH
         | some n =>
           simp only [Yo] at lH; obtain ⟨hq, lH⟩ := eI lH; exact fin (.int k n) (.int k n) rfl lH hg (fun _ => Gq Yo (of_decide_eq_true hq))
       · have lH : (if k = l then (match Kh op p q with
             | some t => N.done (aT st d (.one (.bool t)))
             | none => match zP op k p q with
               | some n => .done (aT st d (.one (.int k n)))
               | none => match Ki op k p q with
                 | some n => .br (decide (q = 0)) .fail (.done (aT st d (.one (.int k n))))
                 | none => .fail) else .fail).val = some aP := by
           cases op <;> first | exact hv | exact absurd (.inl rfl) hs | exact absurd (.inr rfl) hs
         by_cases hk : k = l
         · subst hk; rw [if_pos rfl] at lH
           cases hc : Kh op p q with
           | some r => simp only [hc] at lH; exact fin (.bool r) (.bool r) rfl lH hg (fun _ => KH hc)
           | none =>
             simp only [hc] at lH
             cases ha : zP op k p q with
             | some n => simp only [ha] at lH; exact fin (.int k n) (.int k n) rfl lH hg (fun _ => Gp ha)
             | none =>
               simp only [ha] at lH
               cases TS : Ki op k p q with
               | none => simp [TS, N.val] at lH
               | some n =>
                 simp only [TS] at lH; rcases tw lH with ⟨_, lH⟩ | ⟨hq, lH⟩
                 · simp [N.val] at lH
                 · exact fin (.int k n) (.int k n) rfl lH hg (fun _ => KI TS (of_decide_eq_false hq))
         · rw [if_neg hk] at lH; simp [N.val] at lH
     · rename_i p q; have e1 : ux = .bool p := hx; have e2 : uy = .bool q := hy; subst e1 e2; have hg := fun w' => jR (P := P) (w := w') op t ox oy (.bool p) (.bool q) (by simp) (by simp)
       have hq : ∀ u, P.underlying t = some u → u = .bool → ∀ w' : World, (Op.equal t (.bool p) (.bool q)).run P w' = .ok (p == q) w' := by
         rintro u hu rfl w'
         have e : Op.equal t (.bool p) (.bool q) = Op.equalIn ((Op.maxDepth - 1) + 1) t (.bool p) (.bool q) := rfl; rw [e]; simp only [Op.equalIn]; simp [run_underlying hu]
       cases hk : T.kind t with
       | none => cases op <;> simp [sY, hk, N.val] at hv
       | some ty => cases ty with
         | int _ => cases op <;> simp [sY, hk, N.val] at hv
         | str => cases op <;> simp [sY, hk, N.val] at hv
         | sl _ => cases op <;> simp [sY, hk, N.val] at hv
         | bool =>
           obtain ⟨u, hu, hud⟩ := hT.kind t .bool hk; have := hq u hu hud
           cases op <;> simp only [sY, hk] at hv <;> try (simp [N.val] at hv; done)
           · exact fin (.bool (p == q)) (.bool (p == q)) rfl hv hg (fun w' => by simp [binOp, this w'])
           · exact fin (.bool (!(p == q))) (.bool (!(p == q))) rfl hv hg (fun w' => by simp [binOp, this w'])
     · rename_i p q; have e1 : ux = .string p := hx; have e2 : uy = .string q := hy; subst e1 e2; have hg := fun w' => jR (P := P) (w := w') op t ox oy (.string p) (.string q) (by simp) (by simp)
       simp only [sY] at hv
       cases op <;> simp only at hv <;> try (simp [N.val] at hv; done)
       · obtain ⟨hb, hv⟩ := eI hv; have hb := Nat.le_of_ble_eq_true hb; unfold lim at hb; refine fin (.str (p ++ q)) (.string (p ++ q)) rfl hv hg (fun w' => ?_); have : ¬ ((p.size + q.size : Nat) : Int) > IntKind.i64.max := by
           have : IntKind.i64.max = 9223372036854775807 := by decide
           omega
         simp only [binOp, Op.stringOp]; rw [if_neg this]; rfl
       · exact fin (.bool (oJ p q)) (.bool (oJ p q)) rfl hv hg (fun w' => by simp [binOp, Op.stringOp, oJ])
       · exact fin (.bool (!oJ p q)) (.bool (!oJ p q)) rfl hv hg (fun w' => by simp [binOp, Op.stringOp, oJ])
     · have e1 : ux = .slice none 0 0 := hx; have e2 : uy = .slice none 0 0 := hy; subst e1 e2; have hg := fun w' => jR (P := P) (w := w') op t ox oy (.slice none 0 0) (.slice none 0 0) (by simp) (by simp)
       simp only [sY] at hv
       cases he : T.elem t with
       | none => cases op <;> simp [he, N.val] at hv
       | some p =>
         obtain ⟨e, i, z, hu, _⟩ := hT.elem t p.1 p.2 he; have hq := fun w' => run_equal_slice_nil (P := P) w' t e none 0 0 hu
         cases op <;> simp only [he] at hv <;> try (simp [N.val] at hv; done)
         · exact fin (.bool true) (.bool true) rfl hv hg (fun w' => by simp [binOp, hq w'])
         · exact fin (.bool false) (.bool false) rfl hv hg (fun w' => by simp [binOp, hq w'])
     · rename_i r xs; have e2 : uy = .slice none 0 0 := hy; subst e2; obtain ⟨h1, h2⟩ := hx; rcases (lM _ _ _ _ _).1 h1 with ⟨h3, _⟩ | ⟨a0, cap, h3, _⟩
       · exact absurd h3 h2
       · subst h3; have hg := fun w' => jR (P := P) (w := w') op t ox oy (.slice (some a0) (List.length xs) cap) (.slice none 0 0) (by simp) (by simp)
         simp only [sY] at hv
         cases he : T.elem t with
         | none => cases op <;> simp [he, N.val] at hv
         | some p =>
           obtain ⟨e, i, z, hu, _⟩ := hT.elem t p.1 p.2 he; have hq := fun w' => run_equal_slice_nil (P := P) w' t e (some a0) (List.length xs) cap hu
           cases op <;> simp only [he] at hv <;> try (simp [N.val] at hv; done)
           · exact fin (.bool false) (.bool false) rfl hv hg (fun w' => by simp [binOp, hq w'])
           · exact fin (.bool true) (.bool true) rfl hv hg (fun w' => by simp [binOp, hq w'])
theorem H7 {P : Program} {T : jb} (hT : fh P T) {t : Nat} (h : T.kind t = some .str) : P.underlying t = some .string := by
 obtain ⟨u, hu, hd⟩ := hT.kind t .str h; simp only [descOf] at hd; rw [hu, hd]
theorem El {w0 : World} {mu : Mu} {c : Cz} {st : St} {a : Act} {w : World} (_h : Rel w0 mu c st a w) {a' j g : Nat} {vw : View} {A : fK} {u : Value} (hA : aQ st a' j g = some A)
   (hu : ir c st w (.ref a' j g vw) u) : ∃ ad k, u = .slice ad (vw.app A.xs).length k := by
 have hs := hu.2.2 A hA
 cases hl : c.lc a' j with
 | nil => unfold gP at hs; rw [hl] at hs; exact ⟨none, 0, by rw [hs.2]; exact hs.1⟩
 | «at» b off cap => unfold gP at hs; rw [hl] at hs; obtain ⟨ad, k, h1, _⟩ := hs; exact ⟨some ad, k, h1⟩
theorem NJ {P : Program} {T : jb} (hT : fh P T) {w0 : World} {mu : Mu} {c : Cz} {st : St} {a : Act} {w : World} (h : Rel w0 mu c st a w)
   {d : Option Nat} {t ty : Nat} {x : V} {ux : Value} (hx : dV c st w x ux) {aP : St} (hv : (C6 T st d t x).val = some aP) (hd : ∀ k, d = some k → k < a.tmps.size) :
   ∃ v, (∀ w' : World, (Builtin.len_ #[t] ty #[ux]).run P w' = .ok v w') ∧ Rel w0 mu c aP (a.put d v) w := by
 have sl : ∀ (n : Nat) (ad : Option Addr) (k : Nat), (T.elem t).isSome = true → ux = .slice ad n k → (N.done (aT st d (.one (.int .i64 n)))).val = some aP →
     ∃ v, (∀ w' : World, (Builtin.len_ #[t] ty #[ux]).run P w' = .ok v w') ∧ Rel w0 mu c aP (a.put d v) w := by
   intro n ad k he hu qn; simp only [N.val, Option.some.injEq] at qn; subst qn
   cases hq : T.elem t with
   | none => simp [hq] at he
   | some p =>
     obtain ⟨r, b⟩ := p; obtain ⟨e, _, _, hd1, _⟩ := hT.elem t r b hq; subst hu; exact ⟨.int .i64 n, (fun w' => by simp [Builtin.len_, run_underlying hd1, goInt]), h.aT (u := .int .i64 n) rfl hd⟩
 cases x with
 | agg _ => simp [C6, N.val] at hv
 | kV _ => simp [C6, N.val] at hv
 | one cx => cases cx with
   | str s =>
     simp only [C6] at hv
     cases hk : T.kind t with
     | none => simp [hk, N.val] at hv
     | some y => cases y with
       | str =>
         simp only [hk, N.val, Option.some.injEq] at hv; subst hv; have e : ux = .string s := hx; subst e; exact ⟨.int .i64 s.size, (fun w' => by simp [Builtin.len_, run_underlying (H7 hT hk), goInt]), h.aT (u := .int .i64 s.size) rfl hd⟩
       | _ => simp [hk, N.val] at hv
   | di =>
     simp only [C6] at hv
     cases hk : T.elem t with
     | none => simp [hk, N.val] at hv
     | some p => simp only [hk] at hv; exact sl 0 none 0 (by simp [hk]) hx hv
   | shr r xs =>
     simp only [C6] at hv
     cases hk : T.elem t with
     | none => simp [hk, N.val] at hv
     | some p =>
       simp only [hk] at hv; rcases (lM _ _ _ _ _).1 hx with ⟨h1, h2⟩ | ⟨ad, k, h1, _⟩
       · exact sl xs.length none 0 (by simp [hk]) (by rw [h1, h2]; rfl) hv
       · exact sl xs.length (some ad) k (by simp [hk]) h1 hv
   | ref a' j g vw =>
     simp only [C6] at hv
     cases hk : T.elem t with
     | none => simp [hk, N.val] at hv
     | some p =>
       cases hA : aQ st a' j g with
       | none => simp [hk, hA, N.val] at hv
       | some A =>
         simp only [hk, hA] at hv; obtain ⟨ad, k, hu⟩ := El h hA hx; exact sl _ ad k (by simp [hk]) hu hv
   | _ => simp [C6, N.val] at hv
theorem yK {P : Program} {t e : TypeId} {i : TypeInfo} (hu : P.underlying t = some (.slice e)) (hi : P.info? e = some i) (w : World) (k : IntKind) (a : Addr) (n c : Nat) (j : Int) (h0 : 0 ≤ j) (hj : j < n) :
   (Instr.indexAt t (.slice (some a) n c) (.int k j)).run P w = .ok (.pointer (some (a.add (j.toNat * i.size)))) w := by
 simp [Instr.indexAt, asIntOf, run_underlying hu, sizeOf, typeInfo, hi, h0, hj]
theorem I0 {P : Program} {T : jb} (hT : fh P T) {w0 : World} {mu : Mu} {c : Cz} {st : St} {a : Act} {w : World} (h : Rel w0 mu c st a w)
   {d : Option Nat} {t : Nat} {x y : V} {ux uy : Value} (hx : dV c st w x ux) (hy : dV c st w y uy) {aP : St} (hv : (mX T st d t x y).val = some aP) (hd : ∀ k, d = some k → k < a.tmps.size) :
   ∃ v, (∀ w' : World, (Instr.indexAt t ux uy).run P w' = .ok v w') ∧ Rel w0 mu c aP (a.put d v) w := by
 cases ht : T.elem t with
 | none => simp [mX, ht, N.val] at hv
 | some p =>
   obtain ⟨q, bytes⟩ := p; obtain ⟨e, i, z, hu, hi, jv, BN, _, _, _, _⟩ := hT.elem t q bytes ht; have rd : ∀ (ys : List (ak q)) (k : IntKind) (j : Int), uy = .int k j → bz w c.ok (.sl q) ux ys → (N.br (decide (0 ≤ j)) (.row q ys[j.toNat]? fun y => .done (aT st d (.one (.j6 q y 0)))) .fail).val = some aP →
       ∃ v, (∀ w' : World, (Instr.indexAt t ux uy).run P w' = .ok v w') ∧ Rel w0 mu c aP (a.put d v) w := by
     intro ys k j huy Ec hv; obtain ⟨hj, hv⟩ := eI hv; have hj := of_decide_eq_true hj
     cases hr : ys[j.toNat]? with
     | none => simp [hr, N.val] at hv
     | some y =>
       simp only [hr] at hv; change some _ = some aP at hv; obtain rfl := Option.some.inj hv; have bP : j.toNat < ys.length := (List.getElem?_eq_some_iff.1 hr).1; rcases (lM _ _ _ _ _).1 Ec with ⟨_, h2⟩ | ⟨ad, cap, h1, h2, h3, h4⟩
       · rw [h2] at bP; simp at bP
       · subst h1 huy; have fk : ys ≠ [] := by intro e; rw [e] at bP; simp at bP
         obtain ⟨g1, g2, g3⟩ := h3 fk; refine ⟨_, (fun w' => yK hu hi w' k ad ys.length cap j hj (by omega)), h.aT (v := .one (.j6 q y 0)) ?_ hd⟩; have D5 : ad = ⟨ad.block, ad.off, none⟩ := by cases ad; simp at g1 ⊢; exact g1
         refine ⟨ad.block, ad.off + j.toNat * q.width, ?_, g2, g3, h4 _ y hr⟩; rw [D5, Addr.add_mid, jv]; rfl
   cases x with
   | agg _ => cases y <;> simp [mX, ht, N.val] at hv
   | kV _ => cases y <;> simp [mX, ht, N.val] at hv
   | one cx => cases y with
     | agg _ => cases cx <;> simp [mX, ht, N.val] at hv
     | kV _ => cases cx <;> simp [mX, ht, N.val] at hv
     | one cy => cases cx with
       | shr r xs => cases cy with
         | int k j =>
           simp only [mX, ht] at hv
           cases hc : bn q xs with
           | none => simp [hc, N.val] at hv
           | some ys =>
             simp only [hc] at hv; obtain ⟨rfl, rfl⟩ := aX hc; exact rd _ k j hy hx hv
         | _ => simp [mX, ht, N.val] at hv
       | ref a' j g vw => cases cy with
         | int k n =>
           simp only [mX, ht] at hv
           cases hA : aQ st a' j g with
           | none => simp [hA, N.val] at hv
           | some A =>
             simp only [hA] at hv
             cases hc : bn q A.xs with
             | none => simp [hc, N.val] at hv
             | some ys =>
               simp only [hc] at hv; obtain ⟨e', he⟩ := aX hc; subst e'; simp only at he; subst he; obtain ⟨sl, zV, Nk, zW⟩ := a7 hA; have Ed := h.aI a' j sl A zV zW
               cases ho : A.own with
               | false =>
                 simp only [ho] at hv; have uV : A.md = .sh := by
                   cases hm : A.md with
                   | sh => rfl
                   | dp => rw [hm] at hv; simp [Md.is, N.val] at hv
                   | ho _ => rw [hm] at hv; simp [Md.is, N.val] at hv
                 rw [uV] at hv; simp only [Md.is, Bool.not_true, cond_false] at hv; refine rd _ k n hy ?_ hv; refine wR Ed (hx.2.2 A hA) (fun _ h => h) (fun b hq _ => ?_) (by rw [uV]; rfl); rw [ho, uV] at hq; rcases hq with hq | hq <;> cases hq
               | true =>
                 simp only [ho] at hv; obtain ⟨hn, hv⟩ := eI hv; obtain ⟨bP, hv⟩ := eI hv; have hn := of_decide_eq_true hn; have bP : n.toNat < (vw.app A.xs).length := by simp [Nat.blt] at bP; omega
                 simp only [N.val, Option.some.injEq] at hv; subst hv; have hs := hx.2.2 A hA; have euy : uy = .int k n := hy; subst euy
                 cases hl : c.lc a' j with
                 | nil => unfold gP at hs; rw [hl] at hs; omega
                 | «at» b off cap =>
                   unfold gP at hs; rw [hl] at hs; obtain ⟨ad, cc, rfl, hcc, wS, D5⟩ := hs; have Yc : cc ≠ 0 := by omega
                   refine ⟨_, (fun w' => yK hu hi w' k ad _ cc n hn (by omega)), h.aT (v := .one (.IJ a' j g _ 0)) ?_ hd⟩; have Yp : vw.idx n.toNat = vw.lo + n.toNat := by cases vw <;> simp [View.lo, View.idx]
                   rw [Yp]; have BP : A.xs[vw.lo + n.toNat]? = some (vw.app A.xs)[n.toNat] := View.uD vw A.xs (List.getElem?_eq_getElem bP); refine ⟨rfl, hx.2.1, fun A2 Gr => ?_⟩; rw [hA] at Gr; obtain rfl := Option.some.inj Gr; refine ⟨(List.getElem?_eq_some_iff.1 BP).1, b, off, cap, hl, ?_⟩; rw [D5 Yc, Addr.add_mid, jv, Nat.add_mul]; simp only [Nat.add_zero]; rw [Nat.add_assoc]
         | _ => simp [mX, ht, N.val] at hv
       | _ => cases cy <;> simp [mX, ht, N.val] at hv
end Go.TM
namespace Go.TM
open Go Go.RowKit
def Em (c : Cz) (st : St) (w : World) : Option V → Option Value → Prop
 | none, u => u = none
 | some v, u => ∃ x, u = some x ∧ dV c st w v x
def Bd (o : Option Value) (l : Option Nat) : Prop :=
 match l with
 | none => o = none
 | some l => ∃ k, o = some (.int k l)
theorem mh {c : Cz} {st : St} {w : World} {n : Nat} {lo hi : Option V} {ul uh : Option Value} (hl : Em c st w lo ul) (hh : Em c st w hi uh) {k : Option Nat → Option Nat → N} {aP : St}
   (hv : (lW n lo hi k).val = some aP) : ∃ l h, (k l h).val = some aP ∧ Bd ul l ∧ Bd uh h ∧ l.getD 0 ≤ h.getD n ∧ h.getD n ≤ n := by
 unfold lW at hv; simp only at hv; have Yq : ∀ (l : Option Nat), (hi = none → l.getD 0 ≤ n) → (match hi with
     | none => k l none
     | some (.one (.int _ h)) => .br (decide ((match l with | some l => (l : Int) | none => 0) ≤ h)) (.br (decide (h ≤ n)) (k l (some h.toNat)) .fail) .fail
     | _ => .fail).val = some aP → ∃ h, (k l h).val = some aP ∧ Bd uh h ∧ l.getD 0 ≤ h.getD n ∧ h.getD n ≤ n := by
   intro l hln hv
   cases hi with
   | none => exact ⟨none, hv, hh, hln rfl, Nat.le_refl _⟩
   | some v => cases v with
     | agg _ => simp [N.val] at hv
     | kV _ => simp [N.val] at hv
     | one x => cases x with
       | int q h =>
         simp only at hv; obtain ⟨h1, hv⟩ := eI hv; obtain ⟨h2, hv⟩ := eI hv; have h1 := of_decide_eq_true h1; have h2 := of_decide_eq_true h2; obtain ⟨x, rfl, hx⟩ := hh; have e : x = .int q h := hx; subst e; have h0 : 0 ≤ h := by cases l <;> simp at h1 <;> omega
         refine ⟨some h.toNat, hv, ⟨q, by rw [Int.toNat_of_nonneg h0]⟩, ?_, by simp; omega⟩
         cases l <;> simp at h1 ⊢; omega
       | _ => simp [N.val] at hv
 cases lo with
 | none =>
   obtain ⟨h, g1, g2, g3, g4⟩ := Yq none (fun _ => Nat.zero_le _) hv; exact ⟨none, h, g1, hl, g2, g3, g4⟩
 | some v => cases v with
   | agg _ => simp [N.val] at hv
   | kV _ => simp [N.val] at hv
   | one x => cases x with
     | int q l =>
       simp only at hv; obtain ⟨h1, hv⟩ := eI hv; have h1 := of_decide_eq_true h1; obtain ⟨x, rfl, hx⟩ := hl; have e : x = .int q l := hx; subst e; have hb : Bd (some (.int q l)) (some l.toNat) := ⟨q, by rw [Int.toNat_of_nonneg h1]⟩
       cases hi with
       | none =>
         simp only at hv; obtain ⟨h2, hv⟩ := eI hv; have h2 := of_decide_eq_true h2; obtain ⟨h, g1, g2, g3, g4⟩ := Yq (some l.toNat) (fun _ => by simp; omega) hv; exact ⟨some l.toNat, h, g1, hb, g2, g3, g4⟩
       | some v =>
         obtain ⟨h, g1, g2, g3, g4⟩ := Yq (some l.toNat) (fun e => by cases e) hv; exact ⟨some l.toNat, h, g1, hb, g2, g3, g4⟩
     | _ => simp [N.val] at hv
theorem Aj {P : Program} {w : World} {n cap : Nat} {ul uh : Option Value} {l h : Option Nat} (b : Bool) (hl : Bd ul l) (hh : Bd uh h) (h1 : l.getD 0 ≤ h.getD n) (h2 : h.getD n ≤ n) (hc : n ≤ cap) :
   (Instr.sliceBounds b n cap ul uh none).run P w = .ok (l.getD 0, h.getD n, cap) w := by
 have key : ∀ (q : IntKind) (y m : Nat) (code : BoundsCode), y ≤ m → (Instr.sliceBound (.int q y) m code).run P w = .ok y w := by
   intro q y m code hy; simp [Instr.sliceBound, asIntOf, hy]
 cases l with
 | none =>
   simp only [Bd] at hl; subst hl
   cases h with
   | none =>
     simp only [Bd] at hh; subst hh; simp [Instr.sliceBounds]
   | some h =>
     obtain ⟨q, rfl⟩ := hh; simp at h2; simp [Instr.sliceBounds, key q h cap _ (by omega)]
 | some l =>
   obtain ⟨q, rfl⟩ := hl
   cases h with
   | none =>
     simp only [Bd] at hh; subst hh; simp at h1; simp [Instr.sliceBounds, key q l n _ h1]
   | some h =>
     obtain ⟨q', rfl⟩ := hh; simp at h1 h2; simp [Instr.sliceBounds, key q' h cap _ (by omega), key q l h _ h1]
theorem View.H8 {α : Type} (w : View) (xs : List α) (l h : Option Nat) (h1 : l.getD 0 ≤ h.getD (w.app xs).length) (h2 : h.getD (w.app xs).length ≤ (w.app xs).length) :
   (w.of (w.app xs).length l h).lo = w.lo + l.getD 0 ∧ ((w.of (w.app xs).length l h).app xs).length = h.getD (w.app xs).length - l.getD 0 := by
 cases w with
 | full => cases l <;> cases h <;> simp [View.of, View.lo, View.app] at h1 h2 ⊢ <;> omega
 | «from» a => cases l <;> cases h <;> simp [View.of, View.lo, View.app] at h1 h2 ⊢ <;> omega
 | sub a m => cases l <;> cases h <;> simp [View.of, View.lo, View.app] at h1 h2 ⊢ <;> omega
theorem I1 (n : Nat) (l h : Option Nat) : F9 n l h = View.full.of n l h := by
 cases l <;> cases h <;> simp [F9, View.of, View.lo]
theorem mB {P : Program} {t e : TypeId} {i : TypeInfo} (hu : P.underlying t = some (.slice e)) (hi : P.info? e = some i) {w : World} {a : Option Addr} {n cap : Nat} {ul uh : Option Value} {l h : Option Nat}
   (hl : Bd ul l) (hh : Bd uh h) (h1 : l.getD 0 ≤ h.getD n) (h2 : h.getD n ≤ n) (hc : n ≤ cap) :
   (Instr.sliceAt t (.slice a n cap) ul uh none).run P w = .ok (.slice (if cap = l.getD 0 then a else a.map (·.add (l.getD 0 * i.size))) (h.getD n - l.getD 0) (cap - l.getD 0)) w := by
 have hb := Aj (P := P) (w := w) true hl hh h1 h2 hc; simp [Instr.sliceAt, Instr.slice, run_underlying hu, sizeOf, typeInfo, hi, hb]
theorem I2 {P : Program} {T : jb} (hT : fh P T) {w0 : World} {mu : Mu} {c : Cz} {st : St} {a : Act} {w : World} (h : Rel w0 mu c st a w)
   {d : Option Nat} {t : Nat} {x : V} {ux : Value} {lo hi : Option V} {ul uh : Option Value} (hx : dV c st w x ux) (hl : Em c st w lo ul) (hh : Em c st w hi uh) {aP : St}
   (hv : (ri T st d t x lo hi).val = some aP) (hd : ∀ k, d = some k → k < a.tmps.size) :
   ∃ v, (∀ w' : World, (Instr.sliceAt t ux ul uh none).run P w' = .ok v w') ∧ Rel w0 mu c aP (a.put d v) w := by
 cases x with
 | agg _ => simp [ri, N.val] at hv
 | kV _ => simp [ri, N.val] at hv
 | one cx => cases cx with
   | str s =>
     simp only [ri] at hv
     cases hk : T.kind t with
     | none => simp [hk, N.val] at hv
     | some y => cases y with
       | str =>
         simp only [hk] at hv; obtain ⟨l, q, hv, g1, g2, g3, g4⟩ := mh hl hh hv; simp only [N.val, Option.some.injEq] at hv; subst hv; have e : ux = .string s := hx; subst e; have hb := fun w' : World => Aj (P := P) (w := w') false g1 g2 g3 g4 (Nat.le_refl _)
         refine ⟨.string (s.extract (l.getD 0) (q.getD s.size)), (fun w' => by simp [Instr.sliceAt, Instr.slice, run_underlying (H7 hT hk), hb w']), ?_⟩; exact h.aT (v := .one (.str _)) rfl hd
       | _ => simp [hk, N.val] at hv
   | di =>
     simp only [ri] at hv
     cases hk : T.elem t with
     | none => simp [hk, N.val] at hv
     | some p =>
       obtain ⟨r, b⟩ := p; simp only [hk] at hv; obtain ⟨e, i, z, hu, hi, _⟩ := hT.elem t r b hk; obtain ⟨l, q, hv, g1, g2, g3, g4⟩ := mh hl hh hv; simp only [N.val, Option.some.injEq] at hv; subst hv; have eu : ux = .slice none 0 0 := hx; subst eu; have hr := fun w' : World => mB (P := P) (w := w') (a := none) hu hi g1 g2 g3 g4 (Nat.le_refl 0)
       have e1 : l.getD 0 = 0 := by omega
       have e2 : q.getD 0 = 0 := by omega
       simp only [e1, e2] at hr; exact ⟨_, hr, h.aT (v := .one .di) rfl hd⟩
   | shr r xs =>
     simp only [ri] at hv
     cases hk : T.elem t with
     | none => simp [hk, N.val] at hv
     | some p =>
       obtain ⟨r', b⟩ := p; simp only [hk] at hv
       cases hc : bn r' xs with
       | none => simp [hc, N.val] at hv
       | some ys =>
         simp only [hc] at hv; obtain ⟨rfl, hq⟩ := aX hc
         replace hq : xs = ys := hq.symm
         subst hq; obtain ⟨e, i, z, hu, hi, jv, BN, _⟩ := hT.elem t r b hk; obtain ⟨l, q, hv, g1, g2, g3, g4⟩ := mh hl hh hv; simp only [N.val, Option.some.injEq] at hv; subst hv; have re := View.H8 .full xs l q g3 g4; rw [I1]; rcases (lM _ _ _ _ _).1 hx with ⟨rfl, rfl⟩ | ⟨ad, cap, rfl, h2, h3, h4⟩
         · have hr := fun w' : World => mB (P := P) (w := w') (a := none) hu hi g1 g2 g3 g4 (Nat.le_refl 0)
           simp at g3 g4; have e1 : l.getD 0 = 0 := by omega
           have e2 : q.getD 0 = 0 := by omega
           simp only [e1, show q.getD ([] : List (ak r)).length = 0 from e2] at hr; refine ⟨_, hr, h.aT (v := .one (.shr r _)) ?_ hd⟩; refine (lM _ _ _ _ _).2 (.inl ⟨rfl, ?_⟩); have := re.2; simp [View.app] at this ⊢
           cases hw : View.full.of 0 l q <;> simp
         · have hr := fun w' : World => mB (P := P) (w := w') (a := some ad) hu hi g1 g2 g3 g4 h2
           refine ⟨_, hr, h.aT (v := .one (.shr r _)) ?_ hd⟩; have hlen : ((View.full.of xs.length l q).app xs).length = q.getD xs.length - l.getD 0 := re.2; refine (lM _ _ _ _ _).2 (.inr ⟨if cap = l.getD 0 then ad else ad.add (l.getD 0 * i.size), cap - l.getD 0, ?_, by rw [hlen]; omega, fun fk => ?_, fun j y hy => ?_⟩)
           · rw [hlen]
             congr 1
             by_cases e : cap = l.getD 0 <;> simp [e]
           · have hp : 0 < q.getD xs.length - l.getD 0 := by rw [← hlen]; exact List.length_pos_iff.2 fk
             have Qs : xs ≠ [] := by intro e; subst e; simp at g4 hp; omega
             obtain ⟨k1, k2, k3⟩ := h3 Qs; have D5 : ad = ⟨ad.block, ad.off, none⟩ := by cases ad; simp at k1 ⊢; exact k1
             rw [if_neg (by omega), D5, Addr.add_mid]; exact ⟨rfl, k2, k3⟩
           · have hj : j < q.getD xs.length - l.getD 0 := by rw [← hlen]; exact (List.getElem?_eq_some_iff.1 hy).1
             have Qs : xs ≠ [] := by intro e; subst e; simp at g4 hj; omega
             obtain ⟨k1, k2, k3⟩ := h3 Qs; have D5 : ad = ⟨ad.block, ad.off, none⟩ := by cases ad; simp at k1 ⊢; exact k1
             rw [if_neg (by omega), D5, Addr.add_mid]; have BP := View.uD (View.full.of xs.length l q) xs hy; rw [show (View.full.of xs.length l q).lo = l.getD 0 by have h9 : (View.full.of xs.length l q).lo = View.full.lo + l.getD 0 := re.1; rw [h9]; simp [View.lo]] at BP; have := h4 _ y BP; rw [Nat.add_mul] at this; rw [jv]; simp only; rw [Nat.add_assoc]; exact this
   | ref a' j g vw =>
     simp only [ri] at hv
     cases hk : T.elem t with
     | none => simp [hk, N.val] at hv
     | some p =>
       obtain ⟨r', b⟩ := p; simp only [hk] at hv
       cases hA : aQ st a' j g with
       | none => simp [hA, N.val] at hv
       | some A =>
         simp only [hA] at hv
         cases hc : bn r' A.xs with
         | none => simp [hc, N.val] at hv
         | some ys =>
           simp only [hc] at hv; obtain ⟨e', he⟩ := aX hc; subst e'; simp only at he; subst he; obtain ⟨e, i, z, hu, hi, jv, BN, _⟩ := hT.elem t A.r b hk; obtain ⟨l, q, hv, g1, g2, g3, g4⟩ := mh hl hh hv; simp only [N.val, Option.some.injEq] at hv; subst hv; have re := View.H8 vw A.xs l q g3 g4; have hs := hx.2.2 A hA
           cases fN : c.lc a' j with
           | nil =>
             unfold gP at hs; rw [fN] at hs; obtain ⟨rfl, hn⟩ := hs; rw [hn] at g3 g4; have hr := fun w' : World => mB (P := P) (w := w') (a := none) hu hi g1 g2 g3 g4 (Nat.le_refl 0)
             have e1 : l.getD 0 = 0 := by omega
             have e2 : q.getD 0 = 0 := by omega
             simp only [e1, e2] at hr; refine ⟨_, hr, h.aT (v := .one (.ref a' j g _)) ⟨rfl, hx.2.1, fun A2 Gr => ?_⟩ hd⟩; rw [hA] at Gr; obtain rfl := Option.some.inj Gr; rw [fN]; refine ⟨by simp, ?_⟩; rw [re.2, hn]; omega
           | «at» bb off cap =>
             unfold gP at hs; rw [fN] at hs; obtain ⟨ad, cc, rfl, hcc, wS, D5⟩ := hs; have hr := fun w' : World => mB (P := P) (w := w') (a := some ad) hu hi g1 g2 g3 g4 hcc
             refine ⟨_, hr, h.aT (v := .one (.ref a' j g _)) ⟨?_, hx.2.1, fun A2 Gr => ?_⟩ hd⟩
             · by_cases e : cc = l.getD 0 <;> simp [e, Value.oneCell']
             · rw [hA] at Gr; obtain rfl := Option.some.inj Gr; rw [fN]; refine ⟨if cc = l.getD 0 then ad else ad.add (l.getD 0 * i.size), cc - l.getD 0, ?_, by rw [re.2]; omega, by rw [re.1]; omega, fun fk => ?_⟩
               · rw [re.2]
                 congr 1
                 by_cases e : cc = l.getD 0 <;> simp [e]
               · rw [if_neg (by omega), D5 (by omega), Addr.add_mid, re.1, jv, Nat.add_mul, Nat.add_assoc]
   | _ => simp [ri, N.val] at hv
end Go.TM
namespace Go.TM
open Go Go.RowKit
theorem Fw.grow {w0 : World} {mu : Mu} {c : Cz} {st : St} {a : Act} {w : World} (h : Rel w0 mu c st a w) (o : Obj) : Fw c st w c st (w.alloc o) where
 stays := tn w _ _ _ fun _ _ h => h
 refs a' j g A' _ dL := ⟨A', dL, rfl, rfl, rfl, fun _ => ⟨rfl, fun b oo cap fN => heap_alloc_old w _ b ((h.qG (g := g) dL).lt fN)⟩⟩
 zF _ _ lF _ hb := ⟨⟨lF, hb⟩, rfl⟩
 gA _ := Nat.le_refl _
 gB _ := Nat.le_refl _
 gE _ := Nat.le_refl _
theorem Rel.grow {w0 : World} {mu : Mu} {c : Cz} {st : St} {a : Act} {w : World} (h : Rel w0 mu c st a w) (o : Obj) : Rel w0 mu c st a (w.alloc o) where
 eO t := (Fw.grow h o).kZ (h.eO t)
 boxes s sl cs hs hb := by
   have Qa := h.boxes s sl cs hs hb; exact Qa.go (Fw.grow h o) rfl rfl (heap_alloc_old w _ _ (h.mZ Qa.1))
 aI s j sl A hs hA := (h.aI s j sl A hs hA).go (Fw.grow h o).stays rfl fun b hb => ⟨heap_alloc_old w _ b (h.mZ hb), rfl⟩
 owned b l hb := ⟨Nat.lt_of_lt_of_le (h.owned b l hb).1 (by simp), (h.owned b l hb).2⟩
 free := h.free
 kept := ⟨h.kept.1, h.kept.2.1, h.kept.2.2.1, Nat.le_trans h.kept.2.2.2 (by simp)⟩
 old k hk hm := by
   rw [heap_alloc_old w _ k (Nat.lt_of_lt_of_le hk h.kept.2.2.2)]; exact h.old k hk hm
 dK p hp := (Fw.grow h o).dK (h.dK p hp)
 plain := h.plain
theorem ek.TT {c : Cz} {st : St} {w : World} {x : CV} {cs : List CV} {vs : List Value} (h : ek c st w (x :: cs) vs) : ∃ v l, vs = v :: l ∧ ir c st w x v ∧ ek c st w cs l := by
 obtain ⟨h1, h2⟩ := h
 cases vs with
 | nil => simp at h1
 | cons v l => exact ⟨v, l, rfl, h2 0 x v rfl rfl, by simpa using h1, fun i y u hy hu => h2 (i + 1) y u (by simpa using hy) (by simpa using hu)⟩
theorem NK {w : World} {ok : Nat → Prop} {b off : Nat} (x : ak .nil) : bU w ok .nil b off x := by unfold bU; trivial
theorem xa {w : World} {ok : Nat → Prop} {t : Ty} {r : RT} {b off : Nat} {x : ak (.cons t r)} : bU w ok (.cons t r) b off x ↔ (∃ v, w.cell? ⟨b, off, none⟩ = some v ∧ bz w ok t v x.1) ∧ bU w ok r b (off + 1) x.2 := by
 constructor
 · intro h; unfold bU at h; exact h
 · intro h; unfold bU; exact h
theorem kG {c : Cz} {st : St} {w w' : World} {ok : Nat → Prop} (hs : gH w w' c.ok ok) {b : Nat} : (cs : List CV) → {r : RT} → {x : ak r} → dn cs = some ⟨r, x⟩ → (vs : List Value) → (off : Nat) → ek c st w cs vs → (∀ (i : Nat) v, vs[i]? = some v → w'.cell? ⟨b, off + i, none⟩ = some v) → bU w' ok r b off x
 | [], r, x, h, vs, off, _, _ => by
   unfold dn at h
   cases h
   exact NK _
 | cx :: cs, r, x, h, vs, off, hl, hc => by
   obtain ⟨v, l, rfl, hx, vi⟩ := hl.TT; have h0 := hc 0 v rfl; rw [Nat.add_zero] at h0; have ez : ∀ (i : Nat) u, l[i]? = some u → w'.cell? ⟨b, off + 1 + i, none⟩ = some u := fun i u hu => by
     have := hc (i + 1) u hu
     rwa [show off + (i + 1) = off + 1 + i by omega] at this
   cases cx with
   | int k n =>
     unfold dn at h
     cases hq : dn cs with
     | none => rw [hq] at h; cases h
     | some p =>
       obtain ⟨r0, x0⟩ := p; rw [hq] at h
       cases h
       have ih := kG hs cs hq l (off + 1) vi ez; exact xa.2 ⟨⟨v, h0, oM.2 hx⟩, ih⟩
   | bool n =>
     unfold dn at h
     cases hq : dn cs with
     | none => rw [hq] at h; cases h
     | some p =>
       obtain ⟨r0, x0⟩ := p; rw [hq] at h
       cases h
       have ih := kG hs cs hq l (off + 1) vi ez; exact xa.2 ⟨⟨v, h0, pZ.2 hx⟩, ih⟩
   | str n =>
     unfold dn at h
     cases hq : dn cs with
     | none => rw [hq] at h; cases h
     | some p =>
       obtain ⟨r0, x0⟩ := p; rw [hq] at h
       cases h
       have ih := kG hs cs hq l (off + 1) vi ez; exact xa.2 ⟨⟨v, h0, ti.2 hx⟩, ih⟩
   | shr q xs =>
     unfold dn at h
     cases hq : dn cs with
     | none => rw [hq] at h; cases h
     | some p =>
       obtain ⟨r0, x0⟩ := p; rw [hq] at h
       cases h
       have ih := kG hs cs hq l (off + 1) vi ez; exact xa.2 ⟨⟨v, h0, bz.stays hs _ _ _ hx⟩, ih⟩
   | _ => simp [dn] at h
def Cz.tD (c : Cz) (s : Nat) : Cz :=
 { c with own := fun k => match c.own k with | some (.box t) => if t = s then none else some (.box t) | l => l }
theorem Cz.KJ {c : Cz} {s b : Nat} (h : c.ok b) : (c.tD s).ok b := by
 unfold Cz.ok Cz.tD at *; simp [h]
theorem Cz.I3 {c : Cz} {s b : Nat} (h : c.own b = some (.box s)) : (c.tD s).ok b := by
 unfold Cz.ok Cz.tD; simp [h]
theorem Cz.Ak {c : Cz} {s b : Nat} {l : Lb} (h : c.own b = some l) (fk : l ≠ .box s) : (c.tD s).own b = some l := by
 unfold Cz.tD; simp only [h]
 cases l with
 | box t =>
   simp only; rw [if_neg]
   rintro rfl
   exact fk rfl
 | _ => rfl
theorem Cz.Gs {c : Cz} {s b : Nat} {l : Lb} (h : (c.tD s).own b = some l) : c.own b = some l := by
 unfold Cz.tD at h; simp only at h
 cases hc : c.own b with
 | none => simp [hc] at h
 | some l' => cases l' with
   | box t =>
     simp only [hc] at h
     by_cases e : t = s
     · simp [e] at h
     · rw [if_neg e] at h; exact h
   | _ => simp [hc] at h; rw [h]
theorem p8 (st : St) (b s : Nat) : nth (eP st b) s = if s = b then (nth st s).map (fun x => { x with box := none }) else nth st s := by
 unfold eP; rw [cL]
theorem lf (st : St) (b s : Nat) : bI (eP st b) s = bI st s ∧ cD (eP st b) s = cD st s ∧ fI (eP st b) s = fI st s ∧ kU (eP st b) s = kU st s ∧ ∀ j g, aQ (eP st b) s j g = aQ st s j g := by
 unfold bI cD fI kU aQ; rw [p8]
 by_cases e : s = b
 · rw [if_pos e]
   cases nth st s <;> simp
 · rw [if_neg e]; simp
theorem Dj {st : St} {b s g : Nat} {cs : List CV} (h : cX (eP st b) s g = some cs) : s ≠ b ∧ cX st s g = some cs := by
 unfold cX at h ⊢; rw [p8] at h
 by_cases e : s = b
 · rw [if_pos e] at h
   cases hx : nth st s with
   | none => rw [hx] at h; cases h
   | some x =>
     rw [hx] at h; simp only [Option.map_some] at h
     cases hb : Nat.beq x.bg g <;> rw [hb] at h <;> cases h
 · rw [if_neg e] at h; exact ⟨e, h⟩
theorem Fw.eP (c : Cz) (st : St) (w : World) (s : Nat) : Fw c st w (c.tD s) (eP st s) w where
 stays := ⟨Nat.le_refl _, fun _ _ _ => rfl, fun _ _ h => Cz.KJ h⟩
 refs a' j' g A' _ dL := ⟨A', by rwa [(lf st s a').2.2.2.2] at dL, rfl, rfl, rfl, fun _ => ⟨rfl, fun _ _ _ _ => rfl⟩⟩
 zF b g lF _ h := ⟨⟨lF, (Dj h).2⟩, rfl⟩
 gA b := by rw [(lf st s b).2.1]; exact Nat.le_refl _
 gB b := by rw [(lf st s b).2.2.1]; exact Nat.le_refl _
 gE b := by rw [(lf st s b).2.2.2.1]; exact Nat.le_refl _
theorem Rel.eP {w0 : World} {mu : Mu} {c : Cz} {st : St} {a : Act} {w : World} (h : Rel w0 mu c st a w) (s : Nat) : Rel w0 mu (c.tD s) (eP st s) a w where
 eO t := by rw [(lf st s t).1]; exact (Fw.eP c st w s).kZ (h.eO t)
 boxes b sl cs hs hb := by
   rw [p8] at hs
   by_cases e : b = s
   · rw [if_pos e] at hs
     cases hx : nth st b with
     | none => rw [hx] at hs; cases hs
     | some x => rw [hx] at hs; simp at hs; subst hs; cases hb
   · rw [if_neg e] at hs; have h0 := h.boxes b sl cs hs hb; exact h0.go (Fw.eP c st w s) rfl (by rw [h0.1]; exact Cz.Ak h0.1 (by intro e'; injection e' with e'; exact e e')) rfl
 aI b i sl A hs hb := by
   rw [p8] at hs; have h0 : bA c w b i A := by
     by_cases e : b = s
     · rw [if_pos e] at hs
       cases hx : nth st b with
       | none => rw [hx] at hs; cases hs
       | some x => rw [hx] at hs; simp at hs; subst hs; exact h.aI b i x A hx hb
     · rw [if_neg e] at hs; exact h.aI b i sl A hs hb
   exact h0.go (Fw.eP c st w s).stays rfl fun k h1 => ⟨rfl, by rw [h1]; exact Cz.Ak h1 (by intro e; cases e)⟩
 owned b l hb := h.owned b l (Cz.Gs hb)
 free b hb h1 := by
   cases hc : c.own b with
   | none => exact h.free b hb hc
   | some l =>
     rcases (h.owned b l hc).2 with h2 | h2 | h2
     · subst h2; unfold Cz.tD at h1; simp [hc] at h1
     · omega
     · exact .inl h2
 kept := h.kept
 old := h.old
 dK p hp := (Fw.eP c st w s).dK (h.dK p hp)
 plain := h.plain
theorem En {w : World} {b : Nat} {vs : Array Value} {ty : TypeId} (h : w.heap[b]? = some (.cells vs ty (0, 0))) {i : Nat} {v : Value} (hv : vs.toList[i]? = some v) : w.cell? ⟨b, i, none⟩ = some v := by
 unfold World.cell?; simp [h]; simpa using hv
theorem NL {w0 : World} {mu : Mu} {c : Cz} {st aP : St} {a : Act} {w : World} (h : Rel w0 mu c st a w) {t : Nat} {r : RT} {ys : List (ak r)} (hc : Nw st t = some (aP, ⟨r, ys⟩)) :
   ∃ c', Rel w0 mu c' aP a w ∧ Fw c st w c' aP w ∧ Ce w c'.ok r (a.eval (.tmp t)) ys := by
 have hx := h.eO t; unfold Nw at hc
 split at hc
 · rename_i r' x' off e; obtain ⟨h1, hc⟩ := aD hc; have h1 := Nat.eq_of_beq_eq_true h1; subst h1
   cases hc
   rw [e] at hx; obtain ⟨b, o, e1, e2, e3, e4⟩ := hx; refine ⟨c, h, Fw.refl c st w, b, o, e1, e2, e3, fun y hy => ?_⟩; simp at hy; subst hy; exact e4
 · rename_i r' xs off e; obtain ⟨h1, hc⟩ := aD hc; have h1 := Nat.eq_of_beq_eq_true h1; subst h1
   cases hc
   rw [e] at hx; obtain ⟨b, o, e1, e2, e3, e4⟩ := hx; exact ⟨c, h, Fw.refl c st w, b, o, e1, e2, e3, e4⟩
 · rename_i b g off e
   cases hb : cX st b g with
   | none => rw [hb] at hc; cases hc
   | some cs =>
     rw [hb] at hc; simp only at hc; obtain ⟨h1, hc⟩ := aD hc; have h1 := Nat.eq_of_beq_eq_true h1; subst h1
     cases hp : dn cs with
     | none => rw [hp] at hc; cases hc
     | some p =>
       obtain ⟨r0, x0⟩ := p; rw [hp] at hc
       cases hc
       rw [e] at hx; have hu := hx.2.2 cs hb; obtain ⟨sl, zV, Nk, zW⟩ := fM hb; obtain ⟨ho, vs, ty, hh, hl⟩ := h.boxes b sl cs zV zW; refine ⟨_, h.eP b, Fw.eP c st w b, c.bx b, 0, hu, h.mZ ho, Cz.I3 ho, fun y hy => ?_⟩; simp at hy; subst hy; refine kG (Fw.eP c st w b).stays cs hp vs.toList 0 hl fun i v hv => ?_
       rw [Nat.zero_add]; exact En hh hv
 · cases hc
theorem Eo {w0 : World} {mu : Mu} {a : Act} {w : World} : (l : List Operand) → {c : Cz} → {st aP : St} → Rel w0 mu c st a w → {rs : RT} → {x : ak rs} → vh st l = some (aP, ⟨rs, x⟩) →
   ∃ c', Rel w0 mu c' aP a w ∧ Fw c st w c' aP w ∧ ru w c'.ok rs (l.map a.eval) x
 | [], c, st, aP, h, rs, x, hc => by
   unfold vh at hc
   cases hc
   exact ⟨c, h, Fw.refl c st w, rfl⟩
 | .tmp t :: l, c, st, aP, h, rs, x, hc => by
   unfold vh at hc
   cases h1 : Nw st t with
   | none => rw [h1] at hc; cases hc
   | some p =>
     obtain ⟨xY, r, y⟩ := p; rw [h1] at hc; simp only at hc
     cases h2 : vh xY l with
     | none => rw [h2] at hc; cases hc
     | some p =>
       obtain ⟨fG, rs0, ys⟩ := p; rw [h2] at hc
       cases hc
       obtain ⟨c1, k1, k2, k3⟩ := NL h h1; obtain ⟨c2, g1, g2, g3⟩ := Eo l k1 h2; exact ⟨c2, g1, k2.trans g2, _, _, rfl, k3.stays g2.stays, g3⟩
 | .const _ :: _, _, _, _, _, _, _, hc => by simp [vh] at hc
 | .func _ :: _, _, _, _, _, _, _, hc => by simp [vh] at hc
 | .global _ :: _, _, _, _, _, _, _, hc => by simp [vh] at hc
theorem Ep {c : Cz} {st : St} {w : World} : (rs : RT) → (vs : List Value) → (x : ak rs) → ru w c.ok rs vs x → (sO rs x).length = vs.length ∧ ∀ (k : Nat) v u, (sO rs x)[k]? = some v → vs[k]? = some u → dV c st w v u
 | .nil, vs, x, h => by
   subst h; exact ⟨rfl, fun k v u hv => by simp [sO] at hv⟩
 | .cons (.sl r) rs, vs, x, h => by
   obtain ⟨v0, l, rfl, ⟨b, o, e1, e2, e3, e4⟩, h2⟩ := h; obtain ⟨g1, g2⟩ := Ep (c := c) (st := st) rs l x.2 h2; refine ⟨by simp [sO, g1], fun k v u hv hu => ?_⟩
   cases k with
   | zero =>
     simp only [sO, List.getElem?_cons_zero, Option.some.injEq] at hv hu; subst hv hu; exact ⟨b, o, by rw [Nat.add_zero]; exact e1, e2, e3, e4⟩
   | succ k => exact g2 k v u (by simpa [sO] using hv) (by simpa using hu)
 | .cons (.int _) _, _, _, h => h.elim
 | .cons .bool _, _, _, h => h.elim
 | .cons .str _, _, _, h => h.elim
end Go.TM
namespace Go.TM
open Go Go.RowKit
def uX (P : Program) (T : jb) : Prop :=
 ∀ t, T.eq t = true → ∀ (c : Cz) (st : St) (w : World) (l m : List CV) (us vs : Array Value) (b : Bool) (op : BinOp) (ox oy : Operand), T.fits t l = true → kX l m = some b →
   ek c st w l us.toList → ek c st w m vs.toList → ∀ w' : World, (eqGuard op t ox oy (.agg us) (.agg vs)).run P w' = .ok () w' ∧ (Op.equal t (.agg us) (.agg vs)).run P w' = .ok b w'
def tE (P : Program) (w0 : World) (mu : Mu) (aP : St) (o : Oper) (a : Act) (w : World) (kp : Bool) : Prop :=
 ∀ Q : Exit → Act → World → Prop, o.wp P a w (fun a' w' => (∃ c', Rel w0 mu c' aP a' w' ∧ a'.tmps.size = a.tmps.size) ∧ (kp = true → gr w w')) Q
theorem oR (a : Act) (d : Option Tmp) (v : Value) : (a.put d v).tmps.size = a.tmps.size := by
 cases d <;> simp [Act.put]
theorem rE {P : Program} {w0 : World} {mu : Mu} {c' : Cz} {aP : St} {o : Oper} {a : Act} {w w' : World} {v : Value} {kp : Bool} (hr : (execOp a.eval o).run P w = .ok (.value v) w') (h : Rel w0 mu c' aP (a.put o.dst v) w') (hk : kp = true → gr w w') :
   tE P w0 mu aP o a w kp := by
 intro Q; unfold Oper.wp; rw [hr]; exact ⟨⟨c', h, oR a _ _⟩, hk⟩
theorem oS {P : Program} {s : Sem Value} {w w' : World} {v : Value} (h : s.run P w = .ok v w') : (do pure (Next.value (← s)) : Sem Next).run P w = .ok (.value v) w' := by
 simp [Sem.run_bind, h]
theorem Er {w0 : World} {mu : Mu} {c : Cz} {st : St} {a : Act} {w : World} (h : Rel w0 mu c st a w) (parts : Array (Nat × Operand)) :
   mA c st w (parts.toList.map fun p => (p.1, jQ st p.2)) (parts.map fun (i, x) => (i, a.eval x)).toList := by
 refine ⟨by simp, fun i p u hp hu => ?_⟩; simp only [List.getElem?_map, Array.toList_map] at hp hu
 cases hq : parts.toList[i]? with
 | none => simp [hq] at hp
 | some q =>
   simp only [hq, Option.map_some, Option.some.injEq] at hp hu; subst hp hu; exact ⟨rfl, a8 h q.2⟩
theorem OW {w0 : World} {mu : Mu} {c : Cz} {st : St} {a : Act} {w : World} (h : Rel w0 mu c st a w) (x : Option Operand) : Em c st w (x.map (jQ st)) (x.map a.eval) := by
 cases x with
 | none => rfl
 | some x => exact ⟨_, rfl, a8 h x⟩
theorem I4 {P : Program} {w : World} {ok : Nat → Prop} {u : Value} {ys : List (ak (.cons (.int .u8) .nil))} (h : SK w ok (.cons (.int .u8) .nil) u ys) : (Conv.bytesToString u).run P w = .ok (.string (bytesOf ys)) w := by
 rcases h with ⟨rfl, rfl⟩ | ⟨a, cap, rfl, hs, hr⟩
 · rfl
 · have key := run_bytesToString (P := P) w a ys.length cap (ys.map HY) (by
     have h1 : ((ys.map HY).map (Value.int .u8)).length = ys.length := by simp
     have h2 := run_loadCells_list (P := P) (w := w) a ((ys.map HY).map (Value.int .u8)) (by
       intro j v hv; rw [List.map_map, List.getElem?_map] at hv
       cases hy : ys[j]? with
       | none => rw [hy] at hv; cases hv
       | some y =>
         rw [hy] at hv; simp only [Option.map_some, Option.some.injEq, Function.comp] at hv; subst hv; have h3 := hr j y hy; unfold bU at h3; obtain ⟨⟨v, h4, h5⟩, _⟩ := h3; have h5 := oM.1 h5; subst h5; have fk : ys ≠ [] := by intro e; rw [e] at hy; simp at hy
         have re := hs fk; have e : a.add j = ⟨a.block, a.off + j * (RT.cons (.int .u8) .nil).width, none⟩ := by
           simp only [RT.width, Nat.zero_add, Nat.mul_one]; unfold Addr.add
           split
           · rename_i h0; subst h0; obtain ⟨b, o, s⟩ := a; simp at re; subst re; rfl
           · rfl
         rw [e]; exact h4)
     rw [h1] at h2; exact h2)
   rw [key]
   congr 2
   unfold bytesOf; rw [List.foldl_map]
def Op.Gt : Op → Bool
 | .call { callee := .value (.func _), .. } => true
 | .call { callee := .value (.tmp _), .. } => true
 | _ => false
theorem Es {c : Cz} {st : St} {w : World} {x : V} {v : Value} (h : wQ c st w x v) : dV c st w x v := by
 cases x with
 | one _ => exact h
 | agg _ => exact h
 | kV _ => exact h.elim
theorem H9 {P : Program} {T : jb} (hT : fh P T) (hE : uX P T) {S : hU} {w0 : World} {mu : Mu} {c : Cz} {st : St} {a : Act} {w : World} (h : Rel w0 mu c st a w) {o : Oper} (hk : kindOk S st o .any = true)
   {aP : St} (hv : (FX T S st o).val = some aP) (hd : ∀ k, o.dst = some k → k < a.tmps.size) : ∃ v, (∀ w' : World, (execOp a.eval o).run P w' = .ok (.value v) w') ∧ Rel w0 mu c aP (a.put o.dst v) w := by
 have one : ∀ (v : Value), Rel w0 mu c aP (a.put o.dst v) w → (∀ w' : World, (execOp a.eval o).run P w' = .ok (.value v) w') → ∃ v, (∀ w' : World, (execOp a.eval o).run P w' = .ok (.value v) w') ∧ Rel w0 mu c aP (a.put o.dst v) w :=
   fun v h1 h2 => ⟨v, h2, h1⟩
 unfold FX at hv; unfold kindOk at hk
 cases ho : o.op with
 | move x =>
   simp only [ho, N.val, Option.some.injEq] at hv; subst hv; exact one _ (h.aT (a8 h x) hd) (fun w' => by simp [execOp, ho])
 | assign x =>
   simp only [ho, N.val, Option.some.injEq] at hv; subst hv; exact one _ (h.aT (a8 h x) hd) (fun w' => by simp [execOp, ho])
 | pick x y z =>
   simp only [ho] at hv; have hx := a8 h x
   cases hq : jQ st x with
   | agg _ => simp [hq, N.val] at hv
   | kV _ => simp [hq, N.val] at hv
   | one cx => cases cx with
     | bool b =>
       rw [hq] at hx; have e : a.eval x = .bool b := hx; simp only [hq] at hv; rcases tw hv with ⟨hb, wM⟩ | ⟨hb, wM⟩
       · simp only [N.val, Option.some.injEq] at wM; rw [← wM] at one ⊢; subst hb; exact one _ (h.aT (a8 h y) hd) (fun w' => by simp [execOp, ho, e, asBool])
       · simp only [N.val, Option.some.injEq] at wM; rw [← wM] at one ⊢; subst hb; exact one _ (h.aT (a8 h z) hd) (fun w' => by simp [execOp, ho, e, asBool])
     | _ => simp [hq, N.val] at hv
 | build t parts =>
   simp only [ho] at hv
   cases hr : T.row t with
   | none => simp [hr, N.val] at hv
   | some r => cases hg : T.agg t with
     | false => simp [hr, hg, N.val] at hv
     | true =>
       simp only [hr, hg] at hv
       cases Yr : lX T t (lV r) (parts.toList.map fun p => (p.1, jQ st p.2)) with
       | none => simp [Yr, N.val] at hv
       | some cs =>
         simp only [Yr, N.val, Option.some.injEq] at hv; subst hv; obtain ⟨v, h1, h2⟩ := KG hT h hr hg (Er h parts) Yr hd; exact one v (h2) (fun w' => by simp only [execOp, ho]; exact oS (h1 w'))
 | nilCheck x =>
   simp only [ho] at hv; have hx := a8 h x
   cases hq : jQ st x with
   | agg _ => simp [hq, N.val] at hv
   | kV _ => simp [hq, N.val] at hv
   | one cx => cases cx with
     | ptr b g off =>
       rw [hq] at hx; simp only [hq] at hv
       cases zw : cX st b g with
       | none => simp [zw, N.val] at hv
       | some cs =>
         simp only [zw, N.val, Option.some.injEq] at hv; subst hv; have e := hx.2.2 cs zw; exact one _ (h.aT (v := .one (.ptr b g off)) hx hd) (fun w' => by simp [execOp, ho, e])
     | _ => simp [hq, N.val] at hv
 | binOp op t x y t2 =>
   simp only [ho] at hv; obtain ⟨v, h1, h2⟩ := NI hT h (fun t ht l m us vs b op ox oy => hE t ht c st w l m us vs b op ox oy) (ox := x) (oy := y) (a8 h x) (a8 h y) hv hd; exact one v (h2) (fun w' => by simp only [execOp, ho]; exact oS (h1 w'))
 | unOp op t x =>
   cases op with
   | not =>
     simp only [ho] at hv; have hx := a8 h x
     cases hq : jQ st x with
     | agg _ => simp [hq, N.val] at hv
     | kV _ => simp [hq, N.val] at hv
     | one cx => cases cx with
       | bool b =>
         rw [hq] at hx; have e : a.eval x = .bool b := hx; simp only [hq, N.val, Option.some.injEq] at hv; subst hv; exact one (.bool (!b)) (h.aT (v := .one (.bool (!b))) rfl hd) (fun w' => by simp [execOp, ho, e, Op.unary])
       | _ => simp [hq, N.val] at hv
   | _ => simp [ho, N.val] at hv
 | convert t1 t2 x =>
   simp only [ho] at hv; have hx := a8 h x
   split at hv
   · rename_i k1 k2 k n h1 h2 hq; rw [hq] at hx; have e : a.eval x = .int k n := hx; simp only [N.val, Option.some.injEq] at hv; subst hv; obtain ⟨d1, g1, _⟩ := hT.kind _ _ h1; obtain ⟨d2, g2, e2⟩ := hT.kind _ _ h2; simp only [descOf] at e2; subst e2; refine one (.int k2 (k2.wrap n)) (h.aT (v := .one (.int k2 (k2.wrap n))) rfl hd) (fun w' => ?_); simp only [execOp, ho]; refine oS ?_; simp [convert, run_underlying g1, run_underlying g2, e, Conv.intToInt]
   · rename_i b h1 h2 hq; rw [hq] at hx; have e : a.eval x = .string b := hx; simp only [N.val, Option.some.injEq] at hv; subst hv; obtain ⟨d1, g1, e1⟩ := hT.kind _ _ h1; obtain ⟨d2, g2, e2⟩ := hT.kind _ _ h2; simp only [descOf] at e2 e1; subst e2 e1; refine one (.string b) (h.aT (v := .one (.str b)) rfl hd) (fun w' => ?_); simp only [execOp, ho]; refine oS ?_; simp [convert, run_underlying g1, run_underlying g2, e]
   · rename_i cx _ _ hq; rw [ho] at hk; simp only [hq] at hk
     split at hv
     · cases cx <;> first | (simp [jP, N.val] at hv; done) | (simp at hk; done)
     · simp [N.val] at hv
   · simp [N.val] at hv
 | slice t x lo hi mx =>
   cases mx with
   | some _ => simp [ho, N.val] at hv
   | none =>
     simp only [ho] at hv; obtain ⟨v, h1, h2⟩ := I2 hT h (a8 h x) (OW h lo) (OW h hi) hv hd; exact one v (h2) (fun w' => by simp only [execOp, ho]; exact oS (h1 w'))
 | fieldAddr t x f =>
   simp only [ho] at hv; have hx := a8 h x; have place : ∀ (b q k : Nat), T.off t f = some k → a.eval x = .pointer (some ⟨b, q, none⟩) → ∀ w' : World, (execOp a.eval o).run P w' = .ok (.value (.pointer (some ⟨b, q + k, none⟩))) w' := by
     intro b q k hk e w'; obtain ⟨fs, Cf, n, g1, g2, g3, g4⟩ := hT.off t f k hk
     cases hi : P.info? Cf.type with
     | none => simp [hi] at g4
     | some i =>
       simp only [hi, Option.map_some, Option.some.injEq] at g4; simp only [execOp, ho]; refine oS ?_; subst g3; simp [Instr.fieldAt, run_underlying g1, g2, e, Instr.sureAddr, fieldPlace, sizeOf, typeInfo, hi, g4, Addr.add]
   split at hv
   · rename_i b g off k hq hk; rw [hq] at hx
     cases zw : cX st b g with
     | none => simp [zw, N.val] at hv
     | some cs =>
       simp only [zw, N.val, Option.some.injEq] at hv; subst hv; have e := hx.2.2 cs zw; refine one (.pointer (some ⟨c.bx b, off + k, none⟩)) (h.aT (v := .one (.ptr b g (off + k))) ⟨rfl, hx.2.1, fun lF Gg => rfl⟩ hd) (place _ _ k hk e)
   · rename_i a' j g i off k hq hk; rw [hq] at hx
     cases hA : aQ st a' j g with
     | none => simp [hA, N.val] at hv
     | some A =>
       simp only [hA, N.val, Option.some.injEq] at hv; subst hv; obtain ⟨hi, b, o', cap, hl, e⟩ := hx.2.2 A hA; refine one (.pointer (some ⟨b, o' + i * A.r.width + off + k, none⟩)) (h.aT (v := .one (.IJ a' j g i (off + k))) ⟨rfl, hx.2.1, fun A' dL => ?_⟩ hd) (place _ _ k hk e); rw [hA] at dL
       cases dL
       exact ⟨hi, b, o', cap, hl, by rw [Nat.add_assoc]⟩
   · rename_i r y off k hq hk; rw [hq] at hx; simp only [N.val, Option.some.injEq] at hv; subst hv; obtain ⟨b, o', e, h1, h2, h3⟩ := hx; exact one (.pointer (some ⟨b, o' + off + k, none⟩)) (h.aT (v := .one (.j6 r y (off + k))) ⟨b, o', by rw [Nat.add_assoc], h1, h2, h3⟩ hd) (place _ _ k hk e)
   · rename_i r ys off k hq hk; rw [hq] at hx; simp only [N.val, Option.some.injEq] at hv; subst hv; obtain ⟨b, o', e, h1, h2, h3⟩ := hx; exact one (.pointer (some ⟨b, o' + off + k, none⟩)) (h.aT (v := .one (.ql r ys (off + k))) ⟨b, o', by rw [Nat.add_assoc], h1, h2, h3⟩ hd) (place _ _ k hk e)
   · simp [N.val] at hv
 | indexAddr t x i =>
   simp only [ho] at hv; obtain ⟨v, h1, h2⟩ := I0 hT h (a8 h x) (a8 h i) hv hd; exact one v (h2) (fun w' => by simp only [execOp, ho]; exact oS (h1 w'))
 | index t x i =>
   simp only [ho] at hv; have hx := a8 h x; have hi := a8 h i
   split at hv
   · rename_i s k n h1 Qt Gl; rw [Qt] at hx; rw [Gl] at hi; have e1 : a.eval x = .string s := hx; have e2 : a.eval i = .int k n := hi; obtain ⟨Nl, hv⟩ := eI hv; obtain ⟨Xs, hv⟩ := eI hv; have Nl := of_decide_eq_true Nl; have Xs := of_decide_eq_true Xs; simp only [N.val, Option.some.injEq] at hv; subst hv; obtain ⟨d1, g1, e3⟩ := hT.kind _ _ h1; simp only [descOf] at e3; subst e3; have bP : n.toNat < s.size := by omega
     have hb : s[n.toNat]? = some s[n.toNat] := getElem?_pos s n.toNat bP; refine one (.int .u8 (C5 s n)) (h.aT (v := .one (.int .u8 (C5 s n))) rfl hd) (fun w' => ?_); simp only [execOp, ho]; refine oS ?_; simp [Instr.index, e1, e2, asIntOf, run_underlying g1, Nl, hb, C5]
   · simp [N.val] at hv
 | field t x f =>
   simp only [ho] at hv; have hx := a8 h x
   cases hq : jQ st x with
   | one _ => simp [hq, N.val] at hv
   | kV _ => simp [hq, N.val] at hv
   | agg cs =>
     rw [hq] at hx; simp only [hq] at hv
     cases yG : T.off t f with
     | none => simp [yG, N.val] at hv
     | some k =>
       simp only [yG] at hv; obtain ⟨h1, hv⟩ := cQ hv
       cases hn : nth cs k with
       | none => simp [hn, N.val] at hv
       | some u =>
         simp only [hn, N.val, Option.some.injEq] at hv; subst hv; obtain ⟨vs, e, hl, he⟩ := hx; rw [fm] at hn; have bP : k < vs.size := by rw [← Array.length_toList, ← hl]; exact (List.getElem?_eq_some_iff.1 hn).1
         have hg : vs[k]? = some vs[k] := Array.getElem?_eq_getElem bP; obtain ⟨fs, Cf, d1, g1, g2, g3, g4⟩ := hT.one t f h1; obtain ⟨fs', adD, _, SN, Xw, g5, _⟩ := hT.off t f k yG; rw [g1] at SN; injection SN with SN; injection SN with SN; subst SN; rw [g2] at Xw; injection Xw with Xw; subst Xw; refine one vs[k] (h.aT (v := .one u) (he k u _ hn (by rw [Array.getElem?_toList]; exact hg)) hd) (fun w' => ?_); simp only [execOp, ho]; refine oS ?_; have Qb : (isAgg Cf.type).run P w' = .ok false w' := by
           unfold isAgg; rw [Sem.run_bind, run_underlying g3 w']
           cases d1 <;> simp_all [TypeDesc.isRow]
         simp [Instr.field, e, run_underlying g1, g2, part, asAgg, Qb, g5, hg]
 | extract t i =>
   simp only [ho] at hv; have hx := a8 h t
   cases hq : jQ st t with
   | one _ => simp [hq, N.val] at hv
   | agg _ => simp [hq, N.val] at hv
   | kV vs =>
     rw [hq] at hx; simp only [hq] at hv
     cases hn : nth vs i with
     | none => simp [hn, N.val] at hv
     | some u =>
       simp only [hn, N.val, Option.some.injEq] at hv; subst hv; obtain ⟨us, e, hl, he⟩ := hx; rw [fm] at hn; have bP : i < us.size := by rw [← hl]; exact (List.getElem?_eq_some_iff.1 hn).1
       have hg : us[i]? = some us[i] := Array.getElem?_eq_getElem bP; refine one us[i] (h.aT (Es (he i u _ hn hg)) hd) (fun w' => ?_); simp only [execOp, ho]; refine oS ?_; simp [Instr.extract, e, hg]
 | call cl =>
   obtain ⟨callee, args, I5⟩ := cl
   cases callee with
   | invoke r n => simp [ho, N.val] at hv
   | value x =>
     cases x with
     | func f => simp [ho] at hk
     | tmp f => simp [ho] at hk
     | _ => simp [ho, N.val] at hv
   | builtin b =>
     have hx := fun x => a8 h x
     simp only [ho] at hv; have Ia : ∀ x y, args.toList = [x, y] → args = #[x, y] := fun x y e => by rw [← Array.toArray_toList (xs := args), e]
     split at hv
     · rename_i x t ha ht; have ha : args = #[x] := by rw [← Array.toArray_toList (xs := args), ha]
       have ht : I5 = #[t] := by rw [← Array.toArray_toList (xs := I5), ht]
       subst ha ht; obtain ⟨v, h1, h2⟩ := NJ (ty := o.type) hT h (a8 h x) hv hd; exact one v (h2) (fun w' => by simp only [execOp, ho]; simp [resolve, invoke, builtin, Sem.run_bind, h1 w'])
     · rename_i x y t u ha ht; simp [ho] at hk
     · rename_i ts x y ha; have ha := Ia x y ha; subst ha
       split at hv
       · rename_i k p l q Qt Gl; have e1 := a8 h x; have e2 := a8 h y; rw [Qt] at e1; rw [Gl] at e2; have e1 : a.eval x = .int k p := e1; have e2 : a.eval y = .int l q := e2; simp only [N.val, Option.some.injEq] at hv; subst hv; exact one _ (h.aT (v := .one (.int k (if q < p then q else p))) (u := .int k (if q < p then q else p)) rfl hd) (fun w' => by simp only [execOp, ho]; simp [resolve, invoke, builtin, Sem.run_bind, Builtin.min_, Builtin.min2, e1, e2])
       · simp [N.val] at hv
     · rename_i ts x y ha; have ha := Ia x y ha; subst ha
       split at hv
       · rename_i k p l q Qt Gl; have e1 := a8 h x; have e2 := a8 h y; rw [Qt] at e1; rw [Gl] at e2; have e1 : a.eval x = .int k p := e1; have e2 : a.eval y = .int l q := e2; simp only [N.val, Option.some.injEq] at hv; subst hv; exact one _ (h.aT (v := .one (.int k (if q > p then q else p))) (u := .int k (if q > p then q else p)) rfl hd) (fun w' => by simp only [execOp, ho]; simp [resolve, invoke, builtin, Sem.run_bind, Builtin.max_, Builtin.max2, e1, e2])
       · simp [N.val] at hv
     · rename_i ts x y z ha; have ha : args = #[x, y, z] := by rw [← Array.toArray_toList (xs := args), ha]
       subst ha
       split at hv
       · rename_i k p l q m s Qt Gl TU; have e1 := a8 h x; have e2 := a8 h y; have e3 := a8 h z; rw [Qt] at e1; rw [Gl] at e2; rw [TU] at e3; have e1 : a.eval x = .int k p := e1; have e2 : a.eval y = .int l q := e2; have e3 : a.eval z = .int m s := e3; simp only [N.val, Option.some.injEq] at hv; subst hv; exact one _ (h.aT (v := .one (.int k (if s < (if q < p then q else p) then s else (if q < p then q else p)))) (u := .int k (if s < (if q < p then q else p) then s else (if q < p then q else p))) rfl hd) (fun w' => by simp only [execOp, ho]; simp [resolve, invoke, builtin, Sem.run_bind, Builtin.min_, Builtin.min2, e1, e2, e3])
       · simp [N.val] at hv
     · simp [N.val] at hv
 | _ => simp [ho] at hk
theorem Qu {P : Program} {T : jb} (hT : fh P T) (hE : uX P T) {S : hU} {w0 : World} {mu : Mu} {c : Cz} {st : St} {a : Act} {w : World} (h : Rel w0 mu c st a w) {o : Oper} (hf : Op.Gt o.op = false) (re : Ea st o = false)
   {aP : St} (hv : (FX T S st o).val = some aP) (hd : ∀ k, o.dst = some k → k < a.tmps.size) : tE P w0 mu aP o a w (kindOk S st o .one) := by
 by_cases hp : kindOk S st o .any = true
 · obtain ⟨v, h1, h2⟩ := H9 hT hE h hp hv hd; exact rE (h1 w) h2 (fun _ => gr.refl w)
 have one : ∀ (v : Value) (w' : World), (∃ c', Rel w0 mu c' aP (a.put o.dst v) w') → gr w w' → (execOp a.eval o).run P w = .ok (.value v) w' → tE P w0 mu aP o a w (kindOk S st o .one) :=
   fun v w' ⟨c', h'⟩ hk hr => rE hr h' (fun _ => hk)
 unfold kindOk at hp; unfold FX at hv
 cases ho : o.op with
 | alloc t =>
   simp only [ho] at hv
   cases hr : T.row t with
   | none => simp [hr, N.val] at hv
   | some r =>
     simp only [hr] at hv; obtain ⟨k, s0, hk, gm, rfl⟩ := yH hv; obtain ⟨i, z, hi, hz, IX⟩ := hT.row t r hr; refine one _ _ ⟨_, hk ▸ h.gp (ty := t) gm (hd k hk) (tC IX)⟩ (gr.alloc _ _) ?_; simp [execOp, ho, Instr.alloc, zeroValue, typeInfo, hi, hz, newVar, newRow]
 | box t x =>
   simp only [ho] at hv
   cases hn : T.cells t with
   | none => simp [hn, N.val] at hv
   | some n =>
     simp only [hn] at hv; obtain ⟨hc, hv⟩ := cQ hv; rw [Bool.and_eq_true] at hc; obtain ⟨oQ, _⟩ := (a8 h x).cells hc.1
     cases jh : (bif T.cap t then dn (jQ st x).cells else none) with
     | none =>
       rw [jh] at hv; obtain ⟨k, s0, hk, gm, rfl⟩ := yH hv; refine one _ _ ⟨_, hk ▸ h.gp (ty := t) gm (hd k hk) oQ⟩ (gr.alloc _ _) ?_; simp [execOp, ho, Instr.box, newVar, newRow]
     | some p =>
       obtain ⟨r, y⟩ := p; rw [jh] at hv; simp only [N.val, Option.some.injEq] at hv; subst hv; have Ys : dn (jQ st x).cells = some ⟨r, y⟩ := by
         cases hcp : T.cap t with
         | true => rw [hcp] at jh; exact jh
         | false => rw [hcp] at jh; cases jh
       have Al : c.ok w.heap.size := by
         unfold Cz.ok
         cases hq : c.own w.heap.size with
         | none => rfl
         | some l => exact absurd (h.owned _ l hq).1 (Nat.lt_irrefl _)
       have tp : dV c st (w.alloc (.cells (a.eval x).cells t (0, 0))) (.one (.j6 r y 0)) (.pointer (some ⟨w.heap.size, 0, none⟩)) :=
         ⟨w.heap.size, 0, rfl, by simp, Al, kG (Fw.grow h _).stays _ Ys _ 0 oQ fun i v hv => by
           rw [Nat.zero_add]; exact En (heap_alloc_new w _) hv⟩
       refine one (.pointer (some ⟨w.heap.size, 0, none⟩)) (w.alloc (.cells (a.eval x).cells t (0, 0))) ⟨c, (h.grow _).aT tp hd⟩ (gr.alloc _ _) ?_; simp [execOp, ho, Instr.box, newVar, newRow]
 | makeFunc fn first uU =>
   cases fn with
   | func g =>
     simp only [ho] at hv; obtain ⟨Yt, hv⟩ := cQ hv
     cases hc : vh st uU.toList with
     | none => simp [hc, N.val] at hv
     | some p =>
       obtain ⟨xY, rs, x⟩ := p; rw [hc] at hv; simp only [N.val, Option.some.injEq] at hv; subst hv; obtain ⟨c1, h1, h2, h3⟩ := Eo _ h hc; have hf0 : first = #[] := by simpa using Yt
       subst hf0; have tp : dV c1 xY w (.one (.fn g rs [x])) (.func (.func g) #[] (uU.map a.eval)) :=
         ⟨_, rfl, fun y hy => by
           simp at hy; subst hy; rw [Array.toList_map]; exact h3⟩
       exact one _ w ⟨c1, h1.aT tp hd⟩ (gr.refl w) (by simp [execOp, ho, Instr.makeFunc])
   | _ => simp [ho, N.val] at hv
 | buildSlice t len parts =>
   simp only [ho] at hv; obtain ⟨v, w', h1, NM, c', h2⟩ := Ah hT h (Er h parts) hv hd; exact one v w' ⟨c', h2⟩ NM (by simp only [execOp, ho]; exact oS h1)
 | makeSlice t l cp =>
   simp only [ho] at hv; obtain ⟨v, w', h1, NM, c', h2⟩ := KD hT h (a8 h l) (a8 h cp) hv hd; exact one v w' ⟨c', h2⟩ NM (by simp only [execOp, ho]; exact oS h1)
 | load t x =>
   simp only [ho] at hv; obtain ⟨v, h1, h2⟩ := Eb hT h (a8 h x) hv hd; exact one v w ⟨c, h2⟩ (gr.refl w) (by simp only [execOp, ho]; exact oS (h1 w (gr.refl w)))
 | store t x y =>
   simp only [ho] at hv
   cases sZ : o.dst with
   | some _ => simp [sZ, N.val] at hv
   | none =>
     simp only [sZ] at hv; obtain ⟨w', h1, c', h2⟩ := IW hT h (a8 h x) (a8 h y) hv; intro Q; have hr : (execOp a.eval o).run P w = .ok .skip w' := by simp [execOp, ho, Sem.run_bind, h1]
     unfold Oper.wp; rw [hr]; refine ⟨⟨c', ?_, oR a _ _⟩, fun hk => ?_⟩
     · rw [sZ]; exact h2
     · simp [kindOk, ho] at hk
 | call cl =>
   obtain ⟨callee, args, I5⟩ := cl
   cases callee with
   | invoke r n => simp [ho, N.val] at hv
   | value x =>
     cases x with
     | func f => simp [ho, Op.Gt] at hf
     | tmp f => simp [ho, Op.Gt] at hf
     | _ => simp [ho, N.val] at hv
   | builtin b =>
     simp only [ho] at hv; have Ia : ∀ x y, args.toList = [x, y] → args = #[x, y] := fun x y e => by rw [← Array.toArray_toList (xs := args), e]
     split at hv
     · simp [ho] at hp
     · rename_i x y t u ha ht; obtain ⟨Qv, wM⟩ := cQ hv; have Qv := Nat.eq_of_beq_eq_true Qv; subst Qv; have ha := Ia x y ha; have ht : I5 = #[t, t] := by rw [← Array.toArray_toList (xs := I5), ht]
       subst ha ht; have Qw : j7 st [(.io, jQ st x)] = none := by
         unfold Ea at re; simp only [ho] at re
         cases hq : j7 st [(.io, jQ st x)] with
         | none => rfl
         | some _ => rw [hq] at re; cases re
       unfold C8 at wM; rw [Qw] at wM; obtain ⟨v, w', h1, c', h2⟩ := Af (ty := o.type) hT h (a8 h x) (a8 h y) wM hd; exact rE (c' := c') (by simp only [execOp, ho]; simp [resolve, invoke, builtin, Sem.run_bind, h1]) h2 (fun hk => by simp [kindOk, ho] at hk)
     · simp [ho] at hp
     · simp [ho] at hp
     · simp [ho] at hp
     · simp [N.val] at hv
 | move _ => simp [ho] at hp
 | assign _ => simp [ho] at hp
 | pick _ _ _ => simp [ho] at hp
 | build _ _ => simp [ho] at hp
 | nilCheck _ => simp [ho] at hp
 | binOp _ _ _ _ _ => simp [ho] at hp
 | unOp _ _ _ => simp [ho] at hp
 | convert t1 t2 x =>
   simp only [ho] at hv hp; have hx := a8 h x
   split at hv
   · rename_i hq; simp [hq] at hp
   · rename_i hq; simp [hq] at hp
   · rename_i cx h1 h2 hq
     split at hv
     · rename_i b he; rw [hq] at hx; obtain ⟨ys, h3, h4⟩ := yF h hx hv; simp only [N.val, Option.some.injEq] at h3; subst h3; obtain ⟨e, i, z, g1, g2, g3, g4, g5, _⟩ := hT.elem _ _ _ he; obtain ⟨d2, q2, e2⟩ := hT.kind _ _ h2; simp only [descOf] at e2; subst e2; have hu8 : P.underlying e = some (.int .u8) := hT.u8 t1 e b he g1; have hr := I4 (P := P) h4; refine one (.string (bytesOf ys)) w ⟨c, h.aT (v := .one (.str (bytesOf ys))) rfl hd⟩ (gr.refl w) ?_; simp only [execOp, ho]; refine oS ?_; rcases h4 with ⟨hn, _⟩ | ⟨a0, cap, hn, _⟩
       · rw [hn] at hr ⊢; rw [run_convert_bytes_string w t1 t2 e none 0 0 g1 hu8 q2]; exact hr
       · rw [hn] at hr ⊢; rw [run_convert_bytes_string w t1 t2 e (some a0) _ cap g1 hu8 q2]; exact hr
     · simp [N.val] at hv
   · simp [N.val] at hv
 | slice _ _ _ _ _ => simp [ho] at hp
 | fieldAddr _ _ _ => simp [ho] at hp
 | indexAddr _ _ _ => simp [ho] at hp
 | index _ _ _ => simp [ho] at hp
 | extract _ _ => simp [ho] at hp
 | field _ _ _ => simp [ho] at hp
 | _ => simp [ho, N.val] at hv
end Go.TM
namespace Go.TM
open Go Go.RowKit
def p9 (P : Program) (T : jb) (S : hU) (w0 : World) (mu : Mu) (n : Nat) : Prop :=
 ∀ {c : Cz} {st aP : St} {a : Act} {w : World} {o : Oper}, Rel w0 mu c st a w → a.tmps.size = n → (∀ k, o.dst = some k → k < n) → (FX T S st o).val = some aP → tE P w0 mu aP o a w (kindOk S st o .one)
theorem Am (a : Act) (d : Nat) (v : Value) (hd : d < a.tmps.size) (h : a.eval (.tmp d) = v) : a.put (some d) v = a := by
 obtain ⟨tm, df⟩ := a; simp only [Act.put, Act.mk.injEq, and_true]; simp only [Act.eval, Array.getD_eq_getD_getElem?, Array.getElem?_eq_getElem hd, Option.getD_some] at h; apply Array.ext
 · simp
 · intro i h1 h2; rw [Array.getElem_setIfInBounds h2]
   split
   · rename_i e; subst e; exact h.symm
   · rfl
theorem uE {w0 : World} {mu : Mu} {c : Cz} {st : St} {a : Act} {w : World} (h : Rel w0 mu c st a w) {d : Nat} {b : Bool} (hg : bI st d = .one (.bool b)) :
   d < a.tmps.size ∧ a.eval (.tmp d) = .bool b := by
 have h1 := h.eO d; rw [hg] at h1; have h1 : a.eval (.tmp d) = .bool b := h1; refine ⟨?_, h1⟩; rcases Nat.lt_or_ge d a.tmps.size with h2 | h2
 · exact h2
 · simp [Act.eval, Array.getD_eq_getD_getElem?, Array.getElem?_eq_none h2, undef] at h1
theorem Rel.TV {w0 : World} {mu : Mu} {c : Cz} {st : St} {a : Act} {w : World} (h : Rel w0 mu c st a w) {d : Nat} {b : Bool} (hg : bI st d = .one (.bool b)) :
   Rel w0 mu c (TM.aT st (some d) (.one (.bool b))) a w := by
 obtain ⟨h1, h2⟩ := uE h hg; have := h.aT (d := some d) (v := .one (.bool b)) (u := .bool b) rfl (fun t e => by cases e; exact h1)
 rwa [Am a d _ h1 h2] at this
theorem An {ops : Array Oper} {a : Act} {j d : Nat} {b : Bool} (hj : (nth ops.toList j).bind (·.dst) = some d) (hd : d < a.tmps.size) (h : a.eval (.tmp d) = .bool b) : yielded ops a.tmps j = some b := by
 rw [fm, Array.getElem?_toList] at hj; unfold yielded; rw [hj]; simp only [Act.eval, Array.getD_eq_getD_getElem?, Array.getElem?_eq_getElem hd, Option.getD_some] at h; simp [Array.getElem?_eq_getElem hd, h]
theorem uF : (st : St) → (d : Nat) → {v : V} → bI st d = v → TM.aT st (some d) v = st
 | [], _, _, _ => rfl
 | s :: l, 0, v, h => by
   have h : s.v = v := h; subst h; rfl
 | s :: l, d + 1, v, h => congrArg (s :: ·) (uF l d h)
theorem Et {S : hU} {st : St} {o : Oper} {d : Nat} {b : Bool} {k : Kd} (h : bI st d = .one (.bool b)) : kindOk S (TM.aT st (some d) (.one (.bool b))) o k = kindOk S st o k := by
 rw [uF st d h]
theorem uG (c : Cz) (st : St) (w : World) : dV c st w (.kV []) undef := ⟨#[], rfl, rfl, fun i x y hx => by simp at hx⟩
theorem vn {ops : Array Oper} {a : Act} {j d : Nat} (hj : (nth ops.toList j).bind (·.dst) = some d) (h : a.eval (.tmp d) = undef) : yielded ops a.tmps j = none := by
 rw [fm, Array.getElem?_toList] at hj; unfold yielded; rw [hj]; simp only [Act.eval, Array.getD_eq_getD_getElem?] at h
 cases ht : a.tmps[d]? with
 | none => simp [ht]
 | some v =>
   rw [ht] at h; simp only [Option.getD_some] at h; subst h; simp [ht, undef]
theorem Ao {w0 : World} {mu : Mu} {c : Cz} {st : St} {a : Act} {w : World} (h : Rel w0 mu c st a w) {d : Nat} (hg : bI st d = .kV []) : a.eval (.tmp d) = undef := by
 have h1 := h.eO d; rw [hg] at h1; obtain ⟨vs, e, hl, _⟩ := h1; have : vs = #[] := Array.eq_empty_of_size_eq_zero hl.symm; rw [e, this]; rfl
theorem Eu {P : Program} {T : jb} {S : hU} {w0 : World} {mu : Mu} {n : Nat} (BQ : p9 P T S w0 mu n) {c : Cz} {st aP : St} {a : Act} {w : World} {ops : Array Oper} {o : Oper} (h : Rel w0 mu c st a w) (hn : a.tmps.size = n)
   (hd : ∀ k, o.dst = some k → k < n) (hv : (th T S ops.toList st o).val = some aP) :
   (Region.wanted o (yielded ops a.tmps) = true ∧ tE P w0 mu aP o a w (kindOk S st o .one)) ∨ (Region.wanted o (yielded ops a.tmps) = false ∧ Rel w0 mu c aP (a.put o.dst undef) w) := by
 unfold th at hv; unfold Region.wanted
 cases hg : o.guard with
 | none =>
   simp only [hg] at hv ⊢; exact .inl ⟨trivial, BQ h hn hd hv⟩
 | some p =>
   obtain ⟨j, want⟩ := p; simp only [hg] at hv ⊢
   cases hj : (nth ops.toList j).bind (·.dst) with
   | none => simp [hj, N.val] at hv
   | some d =>
     simp only [hj] at hv
     split at hv
     · rename_i b KK; obtain ⟨h1, h2⟩ := uE h KK; have hy := An (ops := ops) hj h1 h2; rw [hy]; have hk := h.TV KK; have yes : (FX T S (TM.aT st (some d) (.one (.bool b))) o).val = some aP → tE P w0 mu aP o a w (kindOk S st o .one) := fun e => (Et KK) ▸ BQ hk hn hd e
       have no : (N.done (TM.aT (TM.aT st (some d) (.one (.bool b))) o.dst (.kV []))).val = some aP → Rel w0 mu c aP (a.put o.dst undef) w := by
         intro e; simp only [N.val, Option.some.injEq] at e; subst e; exact hk.aT (uG _ _ _) (fun k yG => by rw [hn]; exact hd k yG)
       rcases tw hv with ⟨hb, wM⟩ | ⟨hb, wM⟩
       · subst hb
         cases want
         · exact .inr ⟨rfl, no wM⟩
         · exact .inl ⟨rfl, yes wM⟩
       · subst hb
         cases want
         · exact .inl ⟨rfl, yes wM⟩
         · exact .inr ⟨rfl, no wM⟩
     · rename_i KK; simp only [N.val, Option.some.injEq] at hv; subst hv; rw [vn (ops := ops) hj (Ao h KK)]; exact .inr ⟨by cases want <;> rfl, h.aT (uG _ _ _) (fun k yG => by rw [hn]; exact hd k yG)⟩
     · simp [N.val] at hv
def vG (n : Nat) (ops : List Oper) : Bool := ops.all fun o => match o.dst with | some k => Nat.blt k n | none => true
theorem x4 {n : Nat} {ops : List Oper} (h : vG n ops = true) {o : Oper} (ho : o ∈ ops) : ∀ k, o.dst = some k → k < n := by
 intro k hk; have := List.all_eq_true.1 h o ho; rw [hk] at this; exact Nat.le_of_ble_eq_true this
def Next {R : Type} (w0 : World) (mu : Mu) (n : Nat) (r : R) (k : St → Option R) (K : Act → World → Prop) : Prop :=
 ∀ {c : Cz} {st : St} {a : Act} {w : World}, Rel w0 mu c st a w → a.tmps.size = n → k st = some r → K a w
theorem Dk {R : Type} {P : Program} {T : jb} {S : hU} {w0 : World} {mu : Mu} {n : Nat} (BQ : p9 P T S w0 mu n) {ops : Array Oper} {Q : Exit → Act → World → Prop} {k : St → Option R} {r : R} (hk : Next w0 mu n r k (Q .normal)) :
   (l : List Oper) → vG n l = true → {c : Cz} → {st : St} → {a : Act} → {w : World} → Rel w0 mu c st a w → a.tmps.size = n → IL T S ops.toList l st k = some r → wpList P ops Q l a w
 | [], _, _, _, _, _, h, hn, hv => hk h hn hv
 | o :: l, hl, c, st, a, w, h, hn, hv => by
   unfold IL at hv; rw [N.fold_eq] at hv; obtain ⟨aP, h1, h2⟩ := Option.bind_eq_some_iff.1 hv; have hd := x4 hl (o := o) List.mem_cons_self; have vi : vG n l = true := by
     unfold vG at hl ⊢; rw [List.all_cons, Bool.and_eq_true] at hl; exact hl.2
   refine wpList_step fun K hK => ?_
   rcases Eu BQ h hn hd h1 with ⟨hw, hs⟩ | ⟨hw, hs⟩
   · rw [if_pos hw]; refine Oper.wp_mono (fun a' w' ⟨⟨c', hr, jv⟩, _⟩ => hK a' w' ?_) (hs Q); exact Dk BQ hk l vi hr (jv.trans hn) h2
   · rw [if_neg (by rw [hw]; decide)]; exact hK _ _ (Dk BQ hk l vi hs ((oR _ _ _).trans hn) h2)
def Ex.go : Ex → Exit
 | .normal => .normal
 | .exit n => .exit n
 | .ret => .ret
def Ib {R : Type} (w0 : World) (mu : Mu) (n : Nat) (r : R) (k : Ex → St → Option R) (Q : Exit → Act → World → Prop) : Prop :=
 ∀ {e : Ex} {c : Cz} {st : St} {a : Act} {w : World}, Rel w0 mu c st a w → a.tmps.size = n → k e st = some r → Q e.go a w
def eA (n : Nat) : Code → Bool
 | .region _ ops _ => vG n ops.toList
 | .seq a b => eA n a && eA n b
 | .cond _ a b => eA n a && eA n b
 | .block _ a => eA n a
 | .loop a => eA n a
 | _ => true
def km {R : Type} (P : Program) (w0 : World) (mu : Mu) (n : Nat) (L : kY R) (r : R) (id : Nat) (b : Code) : Prop :=
 ∀ {k : Ex → St → Option R} {Q : Exit → Act → World → Prop}, Ib w0 mu n r k Q → ∀ {c : Cz} {st : St} {a : Act} {w : World}, Rel w0 mu c st a w → a.tmps.size = n →
   L id b st k = some r → (Code.block id (.loop b)).wp P Q a w
def cR (ok : Nat → Code → Prop) : Code → Prop
 | .seq a b => cR ok a ∧ cR ok b
 | .cond _ a b => cR ok a ∧ cR ok b
 | .block id (.loop b) => ok id b
 | .block _ a => cR ok a
 | _ => True
def oB (R : Type) (P : Program) (T : jb) (S : hU) (D : jd) (w0 : World) (mu : Mu) (n : Nat) (ok : Nat → Array Oper → Prop) : Prop :=
 ∀ {id : Nat} {ops : Array Oper} {Q : Exit → Act → World → Prop} {k : St → Option R} {r : R}, ok id ops → vG n ops.toList = true → Next w0 mu n r k (Q .normal) → ∀ {c : Cz} {st : St} {a : Act} {w : World}, Rel w0 mu c st a w → a.tmps.size = n →
   mY T S ops.toList (D id) st k = some r → (Code.region id ops true).wp P Q a w
def du (ok : Nat → Array Oper → Prop) : Code → Prop
 | .region id ops true => ok id ops
 | .seq a b => du ok a ∧ du ok b
 | .cond _ a b => du ok a ∧ du ok b
 | .block _ (.loop _) => True
 | .block _ a => du ok a
 | _ => True
theorem xc {R : Type} {P : Program} {T : jb} {S : hU} {D : jd} {L : kY R} {w0 : World} {mu : Mu} {n : Nat} {r : R} {ok : Nat → Array Oper → Prop} (BQ : p9 P T S w0 mu n) (hD : oB R P T S D w0 mu n ok) :
   (cd : Code) → eA n cd = true → cR (km P w0 mu n L r) cd → du ok cd → {k : Ex → St → Option R} → {Q : Exit → Act → World → Prop} → Ib w0 mu n r k Q →
   {c : Cz} → {st : St} → {a : Act} → {w : World} → Rel w0 mu c st a w → a.tmps.size = n → dt T S D L cd st k = some r → cd.wp P Q a w := by
 intro cd
 induction cd with
 | skip =>
   intro _ _ _ k Q hk c st a w h hn hv; unfold dt at hv; exact wp_skip (hk h hn hv)
 | region id ops draw =>
   intro hd hL hw k Q hk c st a w h hn hv
   cases draw with
   | false =>
     unfold dt at hv; exact wp_region_list (Dk BQ (Q := Q) (k := fun aP => k .normal aP) (fun h1 h2 h3 => hk h1 h2 h3) ops.toList hd h hn hv)
   | true =>
     unfold dt at hv; exact hD hw hd (k := fun aP => k .normal aP) (fun h1 h2 h3 => hk h1 h2 h3) h hn hv
 | seq x y ihx Yu =>
   intro hd hL hw k Q hk c st a w h hn hv; unfold dt at hv; unfold eA at hd; rw [Bool.and_eq_true] at hd; refine wp_seq (ihx hd.1 hL.1 hw.1 (fun {e} {c} {st} {a} {w} h1 h2 h3 => ?_) h hn hv)
   cases e with
   | normal => exact Yu hd.2 hL.2 hw.2 hk h1 h2 h3
   | exit m => exact hk h1 h2 h3
   | ret => exact hk h1 h2 h3
 | cond x y z Yu ihz =>
   intro hd hL hw k Q hk c st a w h hn hv; unfold eA at hd; rw [Bool.and_eq_true] at hd
   cases x with
   | tmp t =>
     unfold dt at hv
     split at hv
     · rename_i b hg; obtain ⟨_, h2⟩ := uE h hg; have hkn := h.TV hg
       cases b with
       | true => exact wp_cond_true h2 (Yu hd.1 hL.1 hw.1 hk hkn hn hv)
       | false => exact wp_cond_false h2 (ihz hd.2 hL.2 hw.2 hk hkn hn hv)
     · cases hv
   | _ => unfold dt at hv; cases hv
 | block id b ih =>
   intro hd hL hw k Q hk c st a w h hn hv
   by_cases hb : ∃ b', b = .loop b'
   · obtain ⟨b', rfl⟩ := hb; unfold dt at hv; exact hL hk h hn hv
   · have lH : dt T S D L b st (fun e aP => match e with
         | .exit n => bif Nat.beq n id then k .normal aP else k (.exit n) aP
         | e => k e aP) = some r := by
       cases b with
       | loop b' => exact absurd ⟨b', rfl⟩ hb
       | _ => unfold dt at hv; exact hv
     have TW : du ok b := by
       cases b with
       | loop b' => exact absurd ⟨b', rfl⟩ hb
       | _ => unfold du at hw; exact hw
     have hL' : cR (km P w0 mu n L r) b := by
       cases b with
       | loop b' => exact absurd ⟨b', rfl⟩ hb
       | _ => unfold cR at hL; exact hL
     refine wp_block (ih hd hL' TW (fun {e} {c} {st} {a} {w} h1 h2 h3 => ?_) h hn lH)
     cases e with
     | normal => exact hk h1 h2 h3
     | ret => exact hk h1 h2 h3
     | exit m =>
       simp only at h3; unfold Exit.inBlock; simp only [Ex.go]
       cases hm : Nat.beq m id with
       | true =>
         rw [hm] at h3; rw [if_pos (Nat.eq_of_beq_eq_true hm)]; exact hk h1 h2 h3
       | false =>
         rw [hm] at h3; rw [if_neg (Nat.ne_of_beq_eq_false hm)]; exact hk (e := .exit m) h1 h2 h3
 | exit id =>
   intro _ _ _ k Q hk c st a w h hn hv; unfold dt at hv; exact wp_exit (hk h hn hv)
 | ret =>
   intro _ _ _ k Q hk c st a w h hn hv; unfold dt at hv; exact wp_ret (hk h hn hv)
 | _ =>
   intro _ _ _ k Q hk c st a w h hn hv; unfold dt at hv
   cases hv
end Go.TM
namespace Go.TM
open Go Go.RowKit
def OwnAt (c : Cz) (w : World) (l : Lb) (lc : Loc) (A : fK) (v : Value) : Prop :=
 v.oneCell' = true ∧ gP lc A.r.width 0 A.xs.length v ∧ A.own = true ∧
 match lc with
 | .nil => A.xs = []
 | .at b off cap => c.own b = some l ∧ A.xs.length ≤ cap ∧ (∃ cur ty, w.heap[b]? = some (.cells cur ty (0, 0)) ∧ off + cap * A.r.width ≤ cur.size) ∧
     bh c w l A b off
def ba (c : Cz) (w : World) (f : Nat → Lb) : (j : Nat) → List OV → List Value → Prop
 | _, [], vs => vs = []
 | j, .int k n :: os, vs => ∃ l, vs = .int k n :: l ∧ ba c w f (j + 1) os l
 | j, .bool b :: os, vs => ∃ l, vs = .bool b :: l ∧ ba c w f (j + 1) os l
 | j, .str s :: os, vs => ∃ l, vs = .string s :: l ∧ ba c w f (j + 1) os l
 | j, .di :: os, vs => ∃ l, vs = .slice none 0 0 :: l ∧ ba c w f (j + 1) os l
 | j, .shr r xs :: os, vs => ∃ v l, vs = v :: l ∧ bz w c.ok (.sl r) v xs ∧ ba c w f (j + 1) os l
 | j, .own A :: os, vs => ∃ v l, vs = v :: l ∧ (∃ lc, OwnAt c w (f j) lc A v) ∧ ba c w f (j + 1) os l
 | j, .j6 r xs :: os, vs => ∃ v l, vs = v :: l ∧ Ce w c.ok r v xs ∧ ba c w f (j + 1) os l
 | j, .fn g rs xs :: os, vs => ∃ v l, vs = v :: l ∧ FnAt w c.ok g rs v xs ∧ ba c w f (j + 1) os l
def Cl (c : Cz) (w : World) (i : Nat) (os : List OV) (v : Value) : Prop :=
 ∃ lN vs ty, v = .pointer (some ⟨lN, 0, none⟩) ∧ c.own lN = some (.qD i) ∧ w.heap[lN]? = some (.cells vs ty (0, 0)) ∧ ba c w (.bB i) 0 os vs.toList
def KM (c : Cz) (w : World) (i : Nat) (lc : Nat → Loc) (j : Nat) (o : OV) (u : Value) : Prop :=
 match o with
 | .own A => OwnAt c w (.bB i j) (lc j) A u
 | .di => lc j = .nil
 | _ => True
def qa (c : Cz) (w : World) (i : Nat) (lc : Nat → Loc) : AV → Value → Prop
 | .val false os, v => ba c w (.bB i) 0 os [v]
 | .val true os, v => ∃ vs, v = .agg vs ∧ ba c w (.bB i) 0 os vs.toList
 | .io A, v => OwnAt c w (.bB i 0) (lc 0) A v
 | .box os, v => Cl c w i os v
 | .bo os, v => ∃ vs, v = .agg vs ∧ ba c w (.bB i) 0 os vs.toList ∧ ∀ j o u, os[j]? = some o → vs.toList[j]? = some u → KM c w i lc j o u
def vH (c : Cz) (w : World) (lc : Nat → Nat → Loc) : (i : Nat) → List AV → List Value → Prop
 | _, [], vs => vs = []
 | i, a :: as, vs => ∃ v l, vs = v :: l ∧ qa c w i (lc i) a v ∧ vH c w lc (i + 1) as l
def Ic (c : Cz) (w : World) (i : Nat) (lc : Nat → Loc) (os : List OV) (us : List Value) (As : List (Option fK)) : Prop :=
 ∀ j A, os[j]? = some (.own A) → ∃ B u, nth As j = some (some B) ∧ us[j]? = some u ∧ B.r.width = A.r.width ∧ B.xs.length = A.xs.length ∧ OwnAt c w (.bB i j) (lc j) B u
def gd (c : Cz) (w : World) (lc : Nat → Nat → Loc) : (i : Nat) → List AV → List Value → List XV → Prop
 | _, [], _, xs => xs = []
 | _, _ :: _, [], _ => False
 | i, .val _ _ :: as, _ :: vs, xs => gd c w lc (i + 1) as vs xs
 | i, .io A :: as, v :: vs, xs => ∃ B l, xs = .io B :: l ∧ B.r.width = A.r.width ∧ B.xs.length = A.xs.length ∧ OwnAt c w (.bB i 0) (lc i 0) B v ∧ gd c w lc (i + 1) as vs l
 | i, .box _ :: as, v :: vs, xs => ∃ os l, xs = .box os :: l ∧ Cl c w i os v ∧ gd c w lc (i + 1) as vs l
 | i, .bo os :: as, v :: vs, xs => ∃ As l, xs = .bo As :: l ∧ (∃ us, v = .agg us ∧ Ic c w i (lc i) os us.toList As) ∧ gd c w lc (i + 1) as vs l
def jH (c : Cz) (w : World) : (j : Nat) → List RV → List Value → Prop
 | _, [], vs => vs = []
 | j, .one o :: rs, vs => ∃ v l, vs = v :: l ∧ ba c w .gn j [o] [v] ∧ jH c w (j + 1) rs l
 | j, .agg os :: rs, vs => ∃ us l, vs = .agg us :: l ∧ ba c w .gn j os us.toList ∧ jH c w (j + os.length) rs l
 | j, .ptr os :: rs, vs => ∃ v l, vs = v :: l ∧ (∃ lN us ty, v = .pointer (some ⟨lN, 0, none⟩) ∧ c.own lN = some (.gn j) ∧ w.heap[lN]? = some (.cells us ty (0, 0)) ∧ ba c w .gn (j + 1) os us.toList) ∧ jH c w (j + (os.length + 1)) rs l
def oT (c : Cz) (w : World) (rs : List RV) (v : Value) : Prop :=
 (∃ r, rs = [r] ∧ jH c w 0 [r] [v]) ∨ (rs.length ≠ 1 ∧ ∃ vs, v = .tuple vs ∧ jH c w 0 rs vs.toList)
structure yL (w0 : World) (mu : Mu) (c : Cz) (w : World) : Prop where
 owned : ∀ b l, c.own b = some l → b < w.heap.size ∧ (l = .out ∨ w0.heap.size ≤ b ∨ mu.m b)
 free : ∀ b, b < w0.heap.size → c.own b = none → mu.m b ∨ mu.ok b
 kept : w.os = w0.os ∧ w.tape = w0.tape ∧ w.output = w0.output ∧ w0.heap.size ≤ w.heap.size
 old : ∀ k, k < w0.heap.size → ¬ mu.m k → w.heap[k]? = w0.heap[k]?
def Lb.iO : Lb → Bool
 | .bB _ _ => true
 | .qD _ => true
 | _ => false
structure Handed (c : Cz) (w : World) (mu : Mu) : Prop where
 m : ∀ b, mu.m b ↔ ∃ l, c.own b = some l ∧ l.iO = true
 ok : ∀ b, mu.ok b ↔ c.own b = none
 lt : ∀ b l, c.own b = some l → b < w.heap.size
 lb : ∀ b l, c.own b = some l → l = .out ∨ l.iO = true
def FnOk (P : Program) (f : FuncId) (yz : td) : Prop :=
 ∀ (c : Cz) (w : World) (mu : Mu) (lc : Nat → Nat → Loc) (cN : List AV) (args : Array Value) (A : Ans) (x : ak A.r), Handed c w mu → vH c w lc 0 cN args.toList → yz cN = some A → A.o = some x →
   Calls P f args w fun e w' => ∃ v, e = .returned v ∧ ∃ c', yL w mu c' w' ∧ oT c' w' (A.res x).outs v ∧ gd c' w' lc 0 cN args.toList (A.res x).exts
mutual
theorem bz.plain {w : World} {ok wP : Nat → Prop} : (t : Ty) → (v : Value) → (x : den t) → RT.dB (.cons t .nil) = false → bz w ok t v x → bz w wP t v x
 | .int _, _, _, _, h => by unfold bz at h ⊢; exact h
 | .bool, _, _, _, h => by unfold bz at h ⊢; exact h
 | .str, _, _, _, h => by unfold bz at h ⊢; exact h
 | .sl _, _, _, hs, _ => by simp [RT.dB] at hs
theorem bU.plain {w : World} {ok wP : Nat → Prop} : (r : RT) → (b off : Nat) → (x : ak r) → r.dB = false → bU w ok r b off x → bU w wP r b off x
 | .nil, _, _, _, _, _ => by unfold bU; trivial
 | .cons t r, b, off, x, hs, h => by
   unfold bU at h ⊢; obtain ⟨⟨v, h1, h2⟩, h3⟩ := h; refine ⟨⟨v, h1, bz.plain t v x.1 ?_ h2⟩, bU.plain r b (off + 1) x.2 ?_ h3⟩
   · cases t <;> simp_all [RT.dB]
   · cases t <;> simp_all [RT.dB]
end
structure Pass (c c' : Cz) (pd : Lb → Prop) : Prop where
 bB : ∀ b l, pd l → c.own b = some l → c'.own b = some l
 ok : ∀ b, c.ok b → c'.ok b
theorem OwnAt.pass {c c' : Cz} {w : World} {l : Lb} {lc : Loc} {A : fK} {v : Value} (hp : ∀ b, c.own b = some l → c'.own b = some l) (ho : (∀ b, c.ok b → c'.ok b) ∨ (!A.r.dB || A.md.is .dp) = true) (h : OwnAt c w l lc A v) : OwnAt c' w l lc A v := by
 unfold OwnAt at h ⊢; obtain ⟨h1, h2, h3, h4⟩ := h; refine ⟨h1, h2, h3, ?_⟩
 cases lc with
 | nil => exact h4
 | «at» b off cap =>
   obtain ⟨g1, g2, g3, g4⟩ := h4; refine ⟨hp b g1, g2, g3, ?_⟩
   by_cases NH : A.md = .sh ∧ A.r.dB = false
   · exact (bh.sh NH.1).2 fun i x hx => bU.plain _ _ _ _ NH.2 ((bh.sh NH.1).1 g4 i x hx)
   · refine g4.go (fun hm => ?_) rfl (fun _ k hk => ⟨rfl, hp k hk⟩); rcases ho with ho | ho
     · exact ⟨Nat.le_refl _, fun _ _ _ => rfl, fun b _ h => ho b h⟩
     · rw [hm] at ho; simp [Md.is] at ho; exact absurd ⟨hm, ho⟩ NH
theorem ba.pass {c c' : Cz} {w : World} {f : Nat → Lb} (hp : ∀ b j, c.own b = some (f j) → c'.own b = some (f j)) : (os : List OV) → ((∀ b, c.ok b → c'.ok b) ∨ os.all OV.plain = true) → (j : Nat) → (vs : List Value) → ba c w f j os vs → ba c' w f j os vs
 | [], _, _, _, h => h
 | .int k n :: os, ho, j, vs, h => by
   obtain ⟨l, h1, h2⟩ := h; exact ⟨l, h1, ba.pass hp os (ho.imp id fun h => by simp at h; simpa using h.2) (j + 1) l h2⟩
 | .bool k :: os, ho, j, vs, h => by
   obtain ⟨l, h1, h2⟩ := h; exact ⟨l, h1, ba.pass hp os (ho.imp id fun h => by simp at h; simpa using h.2) (j + 1) l h2⟩
 | .str k :: os, ho, j, vs, h => by
   obtain ⟨l, h1, h2⟩ := h; exact ⟨l, h1, ba.pass hp os (ho.imp id fun h => by simp at h; simpa using h.2) (j + 1) l h2⟩
 | .di :: os, ho, j, vs, h => by
   obtain ⟨l, h1, h2⟩ := h; exact ⟨l, h1, ba.pass hp os (ho.imp id fun h => by simp at h; simpa using h.2) (j + 1) l h2⟩
 | .shr r xs :: os, ho, j, vs, h => by
   obtain ⟨v, l, h1, h2, h3⟩ := h; refine ⟨v, l, h1, ?_, ba.pass hp os (ho.imp id fun h => by simp at h; simpa using h.2) (j + 1) l h3⟩; rcases ho with ho | ho
   · exact bz.stays ⟨Nat.le_refl _, fun _ _ _ => rfl, fun b _ h => ho b h⟩ _ _ _ h2
   · simp [OV.plain] at ho
 | .j6 r xs :: os, ho, j, vs, h => by
   obtain ⟨v, l, h1, h2, h3⟩ := h; refine ⟨v, l, h1, ?_, ba.pass hp os (ho.imp id fun h => by simp at h; simpa using h.2) (j + 1) l h3⟩; rcases ho with ho | ho
   · exact h2.stays ⟨Nat.le_refl _, fun _ _ _ => rfl, fun b _ h => ho b h⟩
   · simp [OV.plain] at ho
 | .fn g rs xs :: os, ho, j, vs, h => by
   obtain ⟨v, l, h1, h2, h3⟩ := h; refine ⟨v, l, h1, ?_, ba.pass hp os (ho.imp id fun h => by simp at h; simpa using h.2) (j + 1) l h3⟩; rcases ho with ho | ho
   · exact h2.stays ⟨Nat.le_refl _, fun _ _ _ => rfl, fun b _ h => ho b h⟩
   · simp [OV.plain] at ho
 | .own A :: os, ho, j, vs, h => by
   obtain ⟨v, l, h1, ⟨lc, h2⟩, h3⟩ := h; refine ⟨v, l, h1, ⟨lc, h2.pass (fun b => hp b j) (ho.imp id fun h => ?_)⟩, ba.pass hp os (ho.imp id fun h => by simp at h; simpa using h.2) (j + 1) l h3⟩; rw [List.all_cons, Bool.and_eq_true] at h; exact h.1
theorem Cl.pass {c c' : Cz} {w : World} {i : Nat} {os : List OV} {v : Value} (hb : ∀ b, c.own b = some (.qD i) → c'.own b = some (.qD i)) (hp : ∀ b j, c.own b = some (.bB i j) → c'.own b = some (.bB i j)) (ho : (∀ b, c.ok b → c'.ok b) ∨ os.all OV.plain = true) (h : Cl c w i os v) : Cl c' w i os v := by
 obtain ⟨lN, vs, ty, h1, h2, h3, h4⟩ := h; exact ⟨lN, vs, ty, h1, hb _ h2, h3, ba.pass hp os ho 0 _ h4⟩
theorem jH.pass {c c' : Cz} {w : World} (hp : ∀ b j, c.own b = some (.gn j) → c'.own b = some (.gn j)) : (rs : List RV) → ((∀ b, c.ok b → c'.ok b) ∨ rs.all (fun o => o.tc.all OV.plain) = true) → (j : Nat) → (vs : List Value) → jH c w j rs vs → jH c' w j rs vs
 | [], _, _, _, h => h
 | .one o :: rs, ho, j, vs, h => by
   obtain ⟨v, l, h1, h2, h3⟩ := h; exact ⟨v, l, h1, ba.pass hp [o] (ho.imp id fun h => by simp [RV.tc] at h; simpa using h.1) _ _ h2, jH.pass hp rs (ho.imp id fun h => by simp at h; simpa using h.2) _ _ h3⟩
 | .agg os :: rs, ho, j, vs, h => by
   obtain ⟨v, l, h1, h2, h3⟩ := h; exact ⟨v, l, h1, ba.pass hp os (ho.imp id fun h => by simp [RV.tc] at h; simpa using h.1) _ _ h2, jH.pass hp rs (ho.imp id fun h => by simp at h; simpa using h.2) _ _ h3⟩
 | .ptr os :: rs, ho, j, vs, h => by
   obtain ⟨v, l, h1, ⟨lN, us, ty, g1, g2, g3, g4⟩, h3⟩ := h; exact ⟨v, l, h1, ⟨lN, us, ty, g1, hp _ _ g2, g3, ba.pass hp os (ho.imp id fun h => by simp [RV.tc] at h; simpa using h.1.2) _ _ g4⟩, jH.pass hp rs (ho.imp id fun h => by simp at h; simpa using h.2) _ _ h3⟩
theorem oT.pass {c c' : Cz} {w : World} (hp : ∀ b j, c.own b = some (.gn j) → c'.own b = some (.gn j)) {rs : List RV} (ho : (∀ b, c.ok b → c'.ok b) ∨ rs.all (fun o => o.tc.all OV.plain) = true) {v : Value} (h : oT c w rs v) : oT c' w rs v := by
 rcases h with ⟨r, h1, h2⟩ | ⟨h1, vs, h2, h3⟩
 · subst h1; exact .inl ⟨r, rfl, jH.pass hp _ ho _ _ h2⟩
 · exact .inr ⟨h1, vs, h2, jH.pass hp _ ho _ _ h3⟩
theorem Ic.pass {c c' : Cz} {w : World} {i : Nat} {lc : Nat → Loc} {os : List OV} {us : List Value} {As : List (Option fK)} (hp : ∀ b j, c.own b = some (.bB i j) → c'.own b = some (.bB i j)) (ho : (∀ b, c.ok b → c'.ok b) ∨ XV.plain (.bo As) = true) (h : Ic c w i lc os us As) : Ic c' w i lc os us As := by
 intro j A hA; obtain ⟨B, u, h1, h2, h3, h4, h5⟩ := h j A hA; refine ⟨B, u, h1, h2, h3, h4, h5.pass (fun b => hp b j) (ho.imp id fun h => ?_)⟩; have hm : some B ∈ As := by rw [fm] at h1; exact List.mem_of_getElem? h1
 have := List.all_eq_true.1 h _ hm; simpa using this
theorem gd.pass {c c' : Cz} {w : World} {lc : Nat → Nat → Loc} : (as : List AV) → (i : Nat) → (hb : ∀ b k, i ≤ k → c.own b = some (.qD k) → c'.own b = some (.qD k)) → (hp : ∀ b k j, i ≤ k → c.own b = some (.bB k j) → c'.own b = some (.bB k j)) → (vs : List Value) → (xs : List XV) → ((∀ b, c.ok b → c'.ok b) ∨ xs.all XV.plain = true) → gd c w lc i as vs xs → gd c' w lc i as vs xs
 | [], _, _, _, _, _, _, h => h
 | _ :: _, _, _, _, [], _, _, h => h.elim
 | .val _ _ :: as, i, hb, hp, _ :: vs, xs, ho, h => gd.pass as (i + 1) (fun b k hk => hb b k (by omega)) (fun b k j hk => hp b k j (by omega)) vs xs ho h
 | .io A :: as, i, hb, hp, v :: vs, xs, ho, h => by
   obtain ⟨B, l, h1, h2, h3, h4, h5⟩ := h; subst h1; refine ⟨B, l, rfl, h2, h3, h4.pass (fun b => hp b i 0 (Nat.le_refl _)) (ho.imp id fun h => by rw [List.all_cons, Bool.and_eq_true] at h; exact h.1), gd.pass as (i + 1) (fun b k hk => hb b k (by omega)) (fun b k j hk => hp b k j (by omega)) vs l (ho.imp id fun h => by simp at h; simpa using h.2) h5⟩
 | .bo _ :: as, i, hb, hp, v :: vs, xs, ho, h => by
   obtain ⟨As, l, h1, ⟨us, h2, h3⟩, h4⟩ := h; subst h1; refine ⟨As, l, rfl, ⟨us, h2, h3.pass (fun b j => hp b i j (Nat.le_refl _)) (ho.imp id fun h => by rw [List.all_cons, Bool.and_eq_true] at h; exact h.1)⟩, gd.pass as (i + 1) (fun b k hk => hb b k (by omega)) (fun b k j hk => hp b k j (by omega)) vs l (ho.imp id fun h => by rw [List.all_cons, Bool.and_eq_true] at h; exact h.2) h4⟩
 | .box _ :: as, i, hb, hp, v :: vs, xs, ho, h => by
   obtain ⟨os, l, h1, h2, h3⟩ := h; subst h1; refine ⟨os, l, rfl, h2.pass (fun b => hb b i (Nat.le_refl _)) (fun b j => hp b i j (Nat.le_refl _)) (ho.imp id fun h => by simp [XV.plain] at h; simpa using h.1), gd.pass as (i + 1) (fun b k hk => hb b k (by omega)) (fun b k j hk => hp b k j (by omega)) vs l (ho.imp id fun h => by simp at h; simpa using h.2) h3⟩
end Go.TM
namespace Go.TM
open Go Go.RowKit
def Cz.map (c : Cz) (ρ : Lb → Option Lb) : Cz := { bx := c.bx, lc := c.lc, own := fun b => (c.own b).bind ρ }
theorem Cz.qp {c : Cz} {ρ : Lb → Option Lb} {b : Nat} (h : c.ok b) : (c.map ρ).ok b := by
 unfold Cz.ok Cz.map at *; simp [h]
theorem Cz.map_some {c : Cz} {ρ : Lb → Option Lb} {b : Nat} {l : Lb} (h : (c.map ρ).own b = some l) : ∃ k, c.own b = some k ∧ ρ k = some l := by
 unfold Cz.map at h; exact Option.bind_eq_some_iff.1 h
theorem Cz.iT {c : Cz} {ρ : Lb → Option Lb} {b : Nat} {l : Lb} (h : c.own b = some l) : (c.map ρ).own b = ρ l := by
 unfold Cz.map; simp [h]
theorem bh.map {c : Cz} {w : World} {l l' : Lb} {A : fK} {b off : Nat} (h : bh c w l A b off) {ρ : Lb → Option Lb} (hρ : ρ l = some l') : bh (c.map ρ) w l' A b off :=
 h.go (fun _ => ⟨Nat.le_refl _, fun _ _ _ => rfl, fun b _ hb => Cz.qp hb⟩) rfl (fun _ _ hk => ⟨rfl, (Cz.iT hk).trans hρ⟩)
theorem KN {c : Cz} {w : World} {s j : Nat} {A : fK} (h : bA c w s j A) (ho : A.own = true) {vw : View} {u : Value} (h1 : u.oneCell' = true) (hu : gP (c.lc s j) A.r.width vw.lo (vw.app A.xs).length u)
   {ρ : Lb → Option Lb} {l : Lb} (hρ : ρ (.sp s j) = some l) (BH : A.md.is .sh = true ∨ vw.isFull = true) : ∃ lc, OwnAt (c.map ρ) w l lc { A with xs := vw.app A.xs } u := by
 cases hl : c.lc s j with
 | nil =>
   unfold gP at hu; rw [hl] at hu; exact ⟨.nil, h1, hu, ho, List.length_eq_zero_iff.1 hu.2⟩
 | «at» b off cap =>
   unfold gP at hu; rw [hl] at hu; obtain ⟨a, k, rfl, hk, wS, ha⟩ := hu; unfold bA at h; rw [hl] at h; obtain ⟨h0, _, ⟨cur, ty, h3, h4⟩, h5⟩ := h; rw [ho] at h0; refine ⟨.at b (off + vw.lo * A.r.width) k, h1, ⟨a, k, rfl, hk, by omega, by simpa using ha⟩, ho, (Cz.iT h0).trans hρ, hk, ⟨cur, ty, h3, ?_⟩, ?_⟩
   · have : (vw.lo + k) * A.r.width ≤ cap * A.r.width := Nat.mul_le_mul_right _ wS; rw [Nat.add_mul] at this; show off + vw.lo * A.r.width + k * A.r.width ≤ cur.size; omega
   · have Xx : A.md = .sh ∨ A.md ≠ .sh := Classical.em _; rcases Xx with hm | hm
     · refine bh.Kv hm fun i x hi => ?_
       have := (bh.sh hm).1 h5 _ x (View.uD vw A.xs hi); have e : off + vw.lo * A.r.width + i * A.r.width = off + (vw.lo + i) * A.r.width := by rw [Nat.add_mul]; omega
       rw [e]; exact bU.stays ⟨Nat.le_refl _, fun _ _ _ => rfl, fun b _ hb => Cz.qp hb⟩ _ _ _ x rfl this
     · have hf : vw = .full := by
         rcases BH with BH | BH
         · exact absurd (Md.kh.1 BH) hm
         · cases vw with
           | full => rfl
           | «from» _ => cases BH
           | sub _ _ => cases BH
       subst hf; have := h5.go (c' := c.map ρ) (w' := w) (l' := l) (fun e => absurd e hm) rfl (fun _ k hk => ⟨rfl, (Cz.iT hk).trans hρ⟩); simpa [View.lo, View.app] using this
theorem ek.OX {c : Cz} {st : St} {w : World} {x : CV} {cs : List CV} {vs : List Value} (h : ek c st w (x :: cs) vs) : ∃ v l, vs = v :: l ∧ ir c st w x v ∧ ek c st w cs l := by
 obtain ⟨h1, h2⟩ := h
 cases vs with
 | nil => simp at h1
 | cons v l => exact ⟨v, l, rfl, h2 0 x v rfl rfl, by simpa using h1, fun i y u hy hu => h2 (i + 1) y u (by simpa using hy) (by simpa using hu)⟩
theorem kn {α : Type} (l m : List α) (n : Nat) : nth (l ++ m) n = if n < l.length then nth l n else nth m (n - l.length) := by
 simp only [fm]
 by_cases h : n < l.length
 · rw [if_pos h, List.getElem?_append_left h]
 · rw [if_neg h, List.getElem?_append_right (by omega)]
theorem uH {w0 : World} {mu : Mu} {c : Cz} {st : St} {a : Act} {w : World} (h : Rel w0 mu c st a w) {s j g : Nat} {A : fK} (hA : aQ st s j g = some A) : bA c w s j A := by
 obtain ⟨sl, h1, _, h3⟩ := a7 hA; exact h.aI s j sl A h1 h3
theorem x5 {w : World} {P : List Nat → Nat → Prop} {q : RT} {ys : List (ak q)} {b : Nat} : (r : RT) → (p : List Nat) → (k0 off : Nat) → (x : ak r) → (k : Nat) → fo w P r p k0 b off x → nR r x k = some ⟨q, ys⟩ → ∃ v, w.cell? ⟨b, off + k, none⟩ = some v ∧ cE w P (.sl q) (p ++ [k0 + k]) v ys
 | .nil, _, _, _, _, _, _, h => by simp [nR] at h
 | .cons t r, p, k0, off, x, 0, hd, h => by
   unfold fo at hd; obtain ⟨⟨v, h1, h2⟩, _⟩ := hd
   cases t with
   | sl q' =>
     have h : some (⟨q', x.1⟩ : (q : RT) × List (ak q)) = some ⟨q, ys⟩ := h; injection h with h; injection h with e1 e2; subst e1; have e2 := eq_of_heq e2; subst e2; exact ⟨v, h1, h2⟩
   | int _ => simp [nR] at h
   | bool => simp [nR] at h
   | str => simp [nR] at h
 | .cons t r, p, k0, off, x, k + 1, hd, h => by
   unfold fo at hd; have h' : nR r x.2 k = some ⟨q, ys⟩ := by cases t <;> exact h
   obtain ⟨v, h1, h2⟩ := x5 r p (k0 + 1) (off + 1) x.2 k hd.2 h'; exact ⟨v, by rw [show off + (k + 1) = off + 1 + k by omega]; exact h1, by rw [show k0 + (k + 1) = k0 + 1 + k by omega]; exact h2⟩
theorem Ev {c : Cz} {st : St} {w : World} {a j g e i k : Nat} {q : RT} {ys : List (ak q)} {v : Value} {A : fK} (hx : ir c st w (.mW a j g e i k q ys) v) (hA : aQ st a j g = some A) (he : kU st a = e) (ha : bA c w a j A) :
   ∃ (gg : Nat → List Nat) (b o cap : Nat), c.lc a j = .at b o cap ∧ A.md = .dp ∧ gg b = [] ∧ w.cell? ⟨b, o + i * A.r.width + k, none⟩ = some v ∧ (∀ (i : Nat) x, A.xs[i]? = some x → fo w (fun p k => c.own k = some (.sp a j) ∧ gg k = p) A.r [i] 0 b (o + i * A.r.width) x) ∧
     (∃ x, A.xs[i]? = some x ∧ nR A.r x k = some ⟨q, ys⟩) ∧ cE w (fun p k => c.own k = some (.sp a j) ∧ gg k = p) (.sl q) [i, k] v ys := by
 obtain ⟨_, _, _, h⟩ := hx; obtain ⟨hm, ⟨x, vD, TX⟩, b, o, cap, fN, qH⟩ := h A hA he; unfold bA at ha; rw [fN] at ha; obtain ⟨_, _, _, eG⟩ := ha; unfold bh at eG; rw [hm] at eG; obtain ⟨gg, H4, eG⟩ := eG; obtain ⟨v', h1, h2⟩ := x5 A.r [i] 0 _ x k (eG i x vD) TX; rw [qH] at h1
 cases h1
 exact ⟨gg, b, o, cap, fN, hm, H4, qH, eG, ⟨x, vD, TX⟩, by simpa using h2⟩
theorem tF {st : St} {own : Bool} {q : RT} {y : ak q} {off : Nat} {o : OV} {u : Option Lb} {r : List (Nat × Nat)} (h : eU st own (.j6 q y off) = some (o, u, r)) : o = .j6 q [y] ∧ u = none ∧ r = [] := by
 unfold eU at h; obtain ⟨_, h⟩ := aD h; simp only [Option.some.injEq, Prod.mk.injEq] at h; exact ⟨h.1.symm, h.2.1.symm, h.2.2.symm⟩
theorem qJ {st : St} {own : Bool} {q : RT} {y : List (ak q)} {off : Nat} {o : OV} {u : Option Lb} {r : List (Nat × Nat)} (h : eU st own (.ql q y off) = some (o, u, r)) : o = .j6 q y ∧ u = none ∧ r = [] := by
 unfold eU at h; obtain ⟨_, h⟩ := aD h; simp only [Option.some.injEq, Prod.mk.injEq] at h; exact ⟨h.1.symm, h.2.1.symm, h.2.2.symm⟩
theorem Ie {w0 : World} {mu : Mu} {c : Cz} {st : St} {a : Act} {w : World} (h : Rel w0 mu c st a w) {own : Bool} {ρ : Lb → Option Lb} {f : Nat → Lb} {j : Nat} {x : CV} {v : Value} (hx : ir c st w x v) {o : OV} {u : Option Lb} {r : List (Nat × Nat)}
   (hc : eU st own x = some (o, u, r)) (hu : ∀ l, u = some l → ρ l = some (f j)) (hr : ∀ p ∈ r, ρ (.sp p.1 p.2) = none) {os : List OV} {l : List Value} (hh : ba (c.map ρ) w f (j + 1) os l) : ba (c.map ρ) w f j (o :: os) (v :: l) := by
 cases x with
 | int k n =>
   simp only [eU, Option.some.injEq, Prod.mk.injEq] at hc; obtain ⟨rfl, rfl, _⟩ := hc; have e : v = .int k n := hx; exact ⟨l, by rw [e], hh⟩
 | bool n =>
   simp only [eU, Option.some.injEq, Prod.mk.injEq] at hc; obtain ⟨rfl, rfl, _⟩ := hc; have e : v = .bool n := hx; exact ⟨l, by rw [e], hh⟩
 | str n =>
   simp only [eU, Option.some.injEq, Prod.mk.injEq] at hc; obtain ⟨rfl, rfl, _⟩ := hc; have e : v = .string n := hx; exact ⟨l, by rw [e], hh⟩
 | di =>
   simp only [eU, Option.some.injEq, Prod.mk.injEq] at hc; obtain ⟨rfl, rfl, _⟩ := hc; have e : v = .slice none 0 0 := hx; exact ⟨l, by rw [e], hh⟩
 | shr q xs =>
   simp only [eU, Option.some.injEq, Prod.mk.injEq] at hc; obtain ⟨rfl, rfl, _⟩ := hc; have e : bz w c.ok (.sl q) v xs := hx; exact ⟨v, l, rfl, bz.stays ⟨Nat.le_refl _, fun _ _ _ => rfl, fun b _ hb => Cz.qp hb⟩ _ _ _ e, hh⟩
 | nn q xs =>
   simp only [eU, Option.some.injEq, Prod.mk.injEq] at hc; obtain ⟨rfl, rfl, _⟩ := hc; have e : bz w c.ok (.sl q) v xs := hx.1; exact ⟨v, l, rfl, bz.stays ⟨Nat.le_refl _, fun _ _ _ => rfl, fun b _ hb => Cz.qp hb⟩ _ _ _ e, hh⟩
 | ref s k g vw =>
   unfold eU at hc; simp only at hc
   cases hA : aQ st s k g with
   | none => simp [hA] at hc
   | some A =>
     simp only [hA] at hc; have ha := uH h hA; have hs := hx.2.2 A hA; have TY : A.md.C3 = false := by cases hm : A.md <;> simp_all [Md.C3]
     have uV := TY; simp only [TY, cond_false] at hc
     cases hb : (own && A.own && (A.md.is .sh || vw.isFull)) with
     | true =>
       simp only [hb, cond_true, Option.some.injEq, Prod.mk.injEq] at hc; obtain ⟨rfl, rfl, rfl⟩ := hc; rw [Bool.and_eq_true, Bool.and_eq_true, Bool.or_eq_true] at hb; obtain ⟨lc, g1⟩ := KN ha hb.1.2 hx.1 hs (hu _ rfl) hb.2; exact ⟨v, l, rfl, ⟨lc, g1⟩, hh⟩
     | false =>
       simp only [hb, cond_false, Option.some.injEq, Prod.mk.injEq] at hc; obtain ⟨rfl, rfl, rfl⟩ := hc; refine ⟨v, l, rfl, ?_, hh⟩; refine wR ha hs (fun b hb => Cz.qp hb) (fun b _ hk => ?_) uV; exact (Cz.iT hk).trans (hr (s, k) (by simp))
 | mW s k g e i kk q ys =>
   unfold eU at hc; simp only at hc
   cases hA : aQ st s k g with
   | none => simp [hA] at hc
   | some A =>
     simp only [hA] at hc; obtain ⟨h1, hc⟩ := aD hc; rw [Bool.and_eq_true] at h1; simp only [Option.some.injEq, Prod.mk.injEq] at hc; obtain ⟨rfl, rfl, rfl⟩ := hc; obtain ⟨gg, b, o, cap, _, _, _, _, _, _, hd⟩ := Ev hx hA (Nat.eq_of_beq_eq_true h1.2).symm (uH h hA); exact ⟨v, l, rfl, cE.rep (fun p kb hk => (Cz.iT hk.1).trans (hr (s, k) (by simp))) _ _ _ _ hd, hh⟩
 | bad => simp [eU] at hc
 | F2 => simp [eU] at hc
 | ptr _ _ _ => simp [eU] at hc
 | IJ _ _ _ _ _ => simp [eU] at hc
 | j6 q y off =>
   unfold eU at hc; obtain ⟨h1, hc⟩ := aD hc; have h1 := Nat.eq_of_beq_eq_true h1; subst h1; simp only [Option.some.injEq, Prod.mk.injEq] at hc; obtain ⟨rfl, rfl, _⟩ := hc; obtain ⟨b, o, e1, e2, e3, e4⟩ := hx; refine ⟨v, l, rfl, ⟨b, o, e1, e2, Cz.qp e3, fun z hz => ?_⟩, hh⟩; simp at hz; subst hz; exact bU.stays ⟨Nat.le_refl _, fun _ _ _ => rfl, fun b _ hb => Cz.qp hb⟩ _ _ _ _ rfl e4
 | ql q ys off =>
   unfold eU at hc; obtain ⟨h1, hc⟩ := aD hc; have h1 := Nat.eq_of_beq_eq_true h1; subst h1; simp only [Option.some.injEq, Prod.mk.injEq] at hc; obtain ⟨rfl, rfl, _⟩ := hc; obtain ⟨b, o, e1, e2, e3, e4⟩ := hx; exact ⟨v, l, rfl, ⟨b, o, e1, e2, Cz.qp e3, fun z hz => bU.stays ⟨Nat.le_refl _, fun _ _ _ => rfl, fun b _ hb => Cz.qp hb⟩ _ _ _ _ rfl (e4 z hz)⟩, hh⟩
 | fn g rs ys =>
   simp only [eU, Option.some.injEq, Prod.mk.injEq] at hc; obtain ⟨rfl, rfl, _⟩ := hc; have hx : FnAt w c.ok g rs v ys := hx; exact ⟨v, l, rfl, hx.stays ⟨Nat.le_refl _, fun _ _ _ => rfl, fun b _ hb => Cz.qp hb⟩, hh⟩
theorem Ig {w0 : World} {mu : Mu} {c : Cz} {st : St} {a : Act} {w : World} (h : Rel w0 mu c st a w) {own : Bool} {ρ : Lb → Option Lb} {f : Nat → Lb} : (cs : List CV) → (vs : List Value) → (j : Nat) → ek c st w cs vs → {os : List OV} → {u : List (Option Lb)} → {r : List (Nat × Nat)} →
   ee st own cs = some (os, u, r) → (∀ k l, nth u k = some (some l) → ρ l = some (f (j + k))) → (∀ p ∈ r, ρ (.sp p.1 p.2) = none) → ba (c.map ρ) w f j os vs
 | [], vs, j, hl, os, u, r, he, _, _ => by
   simp only [ee, Option.some.injEq, Prod.mk.injEq] at he; obtain ⟨rfl, rfl, rfl⟩ := he; have := hl.1; simp at this; exact List.length_eq_zero_iff.1 this.symm
 | x :: cs, vs, j, hl, os, u, r, he, hu, hr => by
   obtain ⟨v, l, rfl, hx, vi⟩ := hl.OX; unfold ee at he
   cases hc : eU st own x with
   | none => simp [hc] at he
   | some p =>
     obtain ⟨o, u1, r1⟩ := p
     cases hq : ee st own cs with
     | none => simp [hc, hq] at he
     | some q =>
       obtain ⟨xd, us, rs⟩ := q; simp only [hc, hq, Option.some.injEq, Prod.mk.injEq] at he; obtain ⟨rfl, rfl, rfl⟩ := he; refine Ie h hx hc (fun l hl => hu 0 l (by rw [hl]; rfl)) (fun p hp => hr p (List.mem_append_left _ hp)) ?_; refine Ig h cs l (j + 1) vi hq (fun k' l' hk => ?_) (fun p hp => hr p (List.mem_append_right _ hp)); have := hu (k' + 1) l' hk
       rwa [show j + (k' + 1) = j + 1 + k' by omega] at this
end Go.TM
namespace Go.TM
open Go Go.RowKit
def Lb.real : Lb → Bool
 | .box _ => true
 | .sp _ _ => true
 | _ => false
theorem Lb.xe {x y : Lb} (hx : x.real = true) : Lb.same x y = true ↔ x = y := by
 cases x <;> cases y <;> simp [Lb.same, Lb.real] at hx ⊢
theorem mi : (l : List Lb) → (∀ x ∈ l, x.real = true) → rj l = true → l.Nodup
 | [], _, _ => List.nodup_nil
 | x :: l, hr, h => by
   simp only [rj, Bool.and_eq_true, List.all_eq_true] at h; refine List.nodup_cons.2 ⟨fun hm => ?_, mi l (fun y hy => hr y (List.mem_cons_of_mem _ hy)) h.2⟩; have := h.1 x hm; rw [(Lb.xe (hr x List.mem_cons_self)).2 rfl] at this
   cases this
noncomputable def look : List (Lb × Lb) → Lb → Option Lb
 | [], _ => none
 | (x, y) :: t, l => have := Classical.propDecidable (x = l); if x = l then some y else look t l
theorem xf : (t : List (Lb × Lb)) → (t.map (·.1)).Nodup → {p : Lb × Lb} → p ∈ t → look t p.1 = some p.2
 | [], _, _, h => by simp at h
 | (x, y) :: t, hn, p, h => by
   unfold look; simp only [List.map_cons, List.nodup_cons] at hn
   by_cases e : x = p.1
   · rw [if_pos e]; rcases List.mem_cons.1 h with rfl | h
     · rfl
     · exact absurd (List.mem_map.2 ⟨p, h, e.symm⟩) hn.1
   · rw [if_neg e]; rcases List.mem_cons.1 h with rfl | h
     · exact absurd rfl e
     · exact xf t hn.2 h
theorem uI : (t : List (Lb × Lb)) → {l y : Lb} → look t l = some y → (l, y) ∈ t
 | [], _, _, h => by simp [look] at h
 | (x, z) :: t, l, y, h => by
   unfold look at h
   by_cases e : x = l
   · rw [if_pos e] at h
     cases h
     subst e; exact List.mem_cons_self
   · rw [if_neg e] at h; exact List.mem_cons_of_mem _ (uI t h)
def xg (f : Nat → Lb) : (j : Nat) → List (Option Lb) → List (Lb × Lb)
 | _, [] => []
 | j, some l :: ls => (l, f j) :: xg f (j + 1) ls
 | j, none :: ls => xg f (j + 1) ls
theorem xh (f : Nat → Lb) : (j : Nat) → (ls : List (Option Lb)) → (xg f j ls).map (·.1) = bt ls
 | _, [] => rfl
 | j, some l :: ls => by simp [xg, bt, xh f (j + 1) ls]
 | j, none :: ls => by simp [xg, bt, xh f (j + 1) ls]
theorem Ap (f : Nat → Lb) : (j : Nat) → (ls : List (Option Lb)) → ∀ p ∈ xg f j ls, ∃ k, p.2 = f k
 | _, [], p, h => by simp [xg] at h
 | j, some l :: ls, p, h => by
   simp only [xg, List.mem_cons] at h; rcases h with rfl | h
   · exact ⟨j, rfl⟩
   · exact Ap f (j + 1) ls p h
 | j, none :: ls, p, h => Ap f (j + 1) ls p h
theorem tG (f : Nat → Lb) : (j : Nat) → (ls : List (Option Lb)) → ∀ k l, nth ls k = some (some l) → (l, f (j + k)) ∈ xg f j ls
 | _, [], k, l, h => by simp at h
 | j, x :: ls, 0, l, h => by
   simp only [nth, Option.some.injEq] at h; subst h; exact List.mem_cons_self
 | j, x :: ls, k + 1, l, h => by
   have := tG f (j + 1) ls k l h; rw [show j + (k + 1) = j + 1 + k by omega]
   cases x with
   | none => exact this
   | some x => exact List.mem_cons_of_mem _ this
theorem fC {l : Lb} : {ls : List (Option Lb)} → l ∈ bt ls ↔ some l ∈ ls
 | [] => by simp [bt]
 | none :: ls => by simp [bt, fC (ls := ls)]
 | some x :: ls => by simp [bt, fC (ls := ls)]
def Gu (c : Cz) : Option CV → Loc
 | some (.ref a j _ _) => c.lc a j
 | _ => .nil
def yM (c : Cz) : V → Nat → Loc
 | .one (.ref a j _ _) => fun _ => c.lc a j
 | .agg cs => fun k => Gu c cs[k]?
 | _ => fun _ => .nil
theorem Ih {st : St} {own : Bool} : (cs : List CV) → {os : List OV} → {u : List (Option Lb)} → {r : List (Nat × Nat)} → ee st own cs = some (os, u, r) → ∀ (k : Nat) (o : OV), os[k]? = some o → ∃ x u' r', cs[k]? = some x ∧ eU st own x = some (o, u', r') ∧ nth u k = some u'
 | [], _, _, _, h => by
   simp only [ee, Option.some.injEq, Prod.mk.injEq] at h; obtain ⟨rfl, rfl, _⟩ := h; intro k o hk; simp at hk
 | x :: cs, os, u, r, h => by
   unfold ee at h
   cases hc : eU st own x with
   | none => simp [hc] at h
   | some p =>
     obtain ⟨o, u1, r1⟩ := p
     cases hq : ee st own cs with
     | none => simp [hc, hq] at h
     | some q =>
       obtain ⟨xd, us, rs⟩ := q; simp only [hc, hq, Option.some.injEq, Prod.mk.injEq] at h; obtain ⟨rfl, rfl, _⟩ := h; intro k o' hk
       cases k with
       | zero =>
         simp only [List.getElem?_cons_zero, Option.some.injEq] at hk; subst hk; exact ⟨x, u1, r1, rfl, hc, rfl⟩
       | succ k =>
         obtain ⟨y, u', r', h1, h2, h3⟩ := Ih cs hq k o' (by simpa using hk); exact ⟨y, u', r', by simpa using h1, h2, h3⟩
theorem KO {st : St} {own : Bool} {x : CV} {A : fK} {u : Option Lb} {r : List (Nat × Nat)} (h : eU st own x = some (.own A, u, r)) : ∃ a j g w B, x = .ref a j g w ∧ aQ st a j g = some B ∧ A = { B with xs := w.app B.xs } ∧ u = some (.sp a j) ∧ B.own = true := by
 cases x with
 | ref a j g w =>
   unfold eU at h; simp only at h
   cases hA : aQ st a j g with
   | none => simp [hA] at h
   | some B =>
     simp only [hA] at h
     cases hm : B.md.C3 with
     | true => simp [hm] at h
     | false =>
     simp only [hm, cond_false] at h
     cases hb : (own && B.own && (B.md.is .sh || w.isFull)) with
     | false => simp [hb] at h
     | true =>
       simp only [hb, cond_true, Option.some.injEq, Prod.mk.injEq] at h; obtain ⟨h1, rfl, _⟩ := h; injection h1 with h1; rw [Bool.and_eq_true, Bool.and_eq_true] at hb; exact ⟨a, j, g, w, B, rfl, hA, h1.symm, rfl, hb.1.2⟩
 | mW a j g e i k q ys =>
   unfold eU at h; simp only at h
   cases hA : aQ st a j g with
   | none => simp [hA] at h
   | some B =>
     simp only [hA] at h; obtain ⟨_, h⟩ := aD h; simp at h
 | j6 q y off => exact absurd (tF h).1 (by simp)
 | ql q y off => exact absurd (qJ h).1 (by simp)
 | _ => simp [eU] at h
theorem I6 {st : St} {own : Bool} {x : CV} {u : Option Lb} {r : List (Nat × Nat)} (h : eU st own x = some (.di, u, r)) : x = .di := by
 cases x with
 | ref a j g w =>
   unfold eU at h; simp only at h
   cases hA : aQ st a j g with
   | none => simp [hA] at h
   | some B =>
     simp only [hA] at h
     cases hm : B.md.C3 with
     | true => simp [hm] at h
     | false =>
     simp only [hm, cond_false] at h
     cases hb : (own && B.own && (B.md.is .sh || w.isFull)) <;> simp [hb] at h
 | mW a j g e i k q ys =>
   unfold eU at h; simp only at h
   cases hA : aQ st a j g with
   | none => simp [hA] at h
   | some B =>
     simp only [hA] at h; obtain ⟨_, h⟩ := aD h; simp at h
 | di => rfl
 | j6 q y off => exact absurd (tF h).1 (by simp)
 | ql q y off => exact absurd (qJ h).1 (by simp)
 | _ => simp [eU] at h
theorem Cm {st : St} {own : Bool} {x : CV} {o : OV} {u : Option Lb} {r : List (Nat × Nat)} (h : eU st own x = some (o, u, r)) : ∀ l, u = some l → ∃ s j, l = .sp s j := by
 cases x with
 | ref a j g w =>
   unfold eU at h; simp only at h
   cases hA : aQ st a j g with
   | none => simp [hA] at h
   | some A =>
     simp only [hA] at h
     cases hm : A.md.C3 with
     | true => simp [hm] at h
     | false =>
     simp only [hm, cond_false] at h
     cases hb : (own && A.own && (A.md.is .sh || w.isFull)) <;> simp only [hb, cond_true, cond_false, Option.some.injEq, Prod.mk.injEq] at h <;> obtain ⟨_, rfl, _⟩ := h <;> simp
 | mW a j g e i k q ys =>
   unfold eU at h; simp only at h
   cases hA : aQ st a j g with
   | none => simp [hA] at h
   | some B =>
     simp only [hA] at h; obtain ⟨_, h⟩ := aD h; simp only [Option.some.injEq, Prod.mk.injEq] at h; obtain ⟨_, rfl, _⟩ := h; simp
 | j6 q y off => obtain ⟨_, rfl, _⟩ := tF h; simp
 | ql q y off => obtain ⟨_, rfl, _⟩ := qJ h; simp
 | _ => simp [eU] at h <;> (try (obtain ⟨_, rfl, _⟩ := h; simp))
theorem uJ {st : St} {own : Bool} : (cs : List CV) → {os : List OV} → {u : List (Option Lb)} → {r : List (Nat × Nat)} → ee st own cs = some (os, u, r) → ∀ l ∈ bt u, ∃ s j, l = .sp s j
 | [], _, _, _, h => by
   simp only [ee, Option.some.injEq, Prod.mk.injEq] at h; obtain ⟨_, rfl, _⟩ := h; simp [bt]
 | x :: cs, os, u, r, h => by
   unfold ee at h
   cases hc : eU st own x with
   | none => simp [hc] at h
   | some p =>
     obtain ⟨o, u1, r1⟩ := p
     cases hq : ee st own cs with
     | none => simp [hc, hq] at h
     | some q =>
       obtain ⟨xd, us, rs⟩ := q; simp only [hc, hq, Option.some.injEq, Prod.mk.injEq] at h; obtain ⟨_, rfl, _⟩ := h; intro l hl; rw [fC] at hl; rcases List.mem_cons.1 hl with hl | hl
       · exact Cm hc l hl.symm
       · exact uJ cs hq l (fC.2 hl)
theorem I7 {st : St} {own : Bool} (cs : List CV) {os : List OV} {u : List (Option Lb)} {r : List (Nat × Nat)} (h : ee st own cs = some (os, u, r)) : ∀ l ∈ bt u, l.real = true := by
 intro l hl; obtain ⟨s, j, rfl⟩ := uJ cs h l hl; rfl
def hZ (i : Nat) (av : AV) (bx : List Lb) (u : List (Option Lb)) : List (Lb × Lb) :=
 bx.map (fun l => (l, .qD i)) ++ xg (.bB i) 0 u
theorem ko (i : Nat) (av : AV) (bx : List Lb) (u : List (Option Lb)) : (hZ i av bx u).map (·.1) = bx ++ bt u := by
 unfold hZ; rw [List.map_append, xh, List.map_map]
 congr 1
 exact List.map_id bx
theorem kq (i : Nat) (av : AV) (bx : List Lb) (u : List (Option Lb)) : ∀ p ∈ hZ i av bx u, p.2.iO = true := by
 intro p hp; unfold hZ at hp; rcases List.mem_append.1 hp with hp | hp
 · obtain ⟨l, _, rfl⟩ := List.mem_map.1 hp; rfl
 · obtain ⟨k, e⟩ := Ap _ _ _ p hp; rw [e]; rfl
theorem I8 {w0 : World} {mu : Mu} {c : Cz} {st : St} {a : Act} {w : World} (h : Rel w0 mu c st a w) {m : Pm} {v : V} {x : Value} (hx : dV c st w v x) {av : AV} {u q : List Lb} {r : List (Nat × Nat)} (he : dC st m v = some (av, u, q, r)) (i : Nat) :
   (∀ l ∈ u, l.real = true) ∧ (∀ l ∈ q, l ∈ u) ∧ ∃ tb : List (Lb × Lb), tb.map (·.1) = u ∧ (∀ p ∈ tb, p.2.iO = true) ∧ ∀ ρ : Lb → Option Lb, (∀ p ∈ tb, ρ p.1 = some p.2) → (∀ p ∈ r, ρ (.sp p.1 p.2) = none) → qa (c.map ρ) w i (yM c v) av x := by
 have vals : ∀ (own : Bool) (cs : List CV) (os : List OV) (us : List (Option Lb)) (rs : List (Nat × Nat)) (vs : List Value), ek c st w cs vs → ee st own cs = some (os, us, rs) → (∀ l ∈ bt us, l.real = true) ∧
     ∀ ρ : Lb → Option Lb, (∀ p ∈ xg (.bB i) 0 us, ρ p.1 = some p.2) → (∀ p ∈ rs, ρ (.sp p.1 p.2) = none) → ba (c.map ρ) w (.bB i) 0 os vs := by
   intro own cs os us rs vs hl hq; refine ⟨I7 cs hq, fun ρ hp hr => Ig h cs vs 0 hl hq (fun k l hk => ?_) hr⟩; have := hp _ (tG (.bB i) 0 us k l hk); simpa using this
 have single : ∀ (own : Bool) (cx : CV) (os : List OV) (us : List (Option Lb)) (rs : List (Nat × Nat)), ir c st w cx x → ee st own [cx] = some (os, us, rs) → (∀ l ∈ bt us, l.real = true) ∧ (∀ l ∈ bt us, l ∈ bt us) ∧
     ∃ tb : List (Lb × Lb), tb.map (·.1) = bt us ∧ (∀ p ∈ tb, p.2.iO = true) ∧ ∀ ρ : Lb → Option Lb, (∀ p ∈ tb, ρ p.1 = some p.2) → (∀ p ∈ rs, ρ (.sp p.1 p.2) = none) → qa (c.map ρ) w i (yM c (.one cx)) (.val false os) x := by
   intro own cx os us rs hl hq; obtain ⟨g1, g2⟩ := vals own [cx] os us rs [x] ⟨rfl, fun k y z hy hz => by
     cases k with
     | zero => simp at hy hz; subst hy hz; exact hl
     | succ k => simp at hy⟩ hq
   exact ⟨g1, fun _ h => h, hZ i (.val false os) [] us, ko _ _ _ _, kq _ _ _ _, fun ρ hp hr => g2 ρ (fun p jh => hp p (by simpa [hZ] using jh)) hr⟩
 cases v with
 | kV _ => simp [dC] at he
 | agg cs =>
   obtain ⟨vs, rfl, hl⟩ := hx; have other : (match ee st m.lL cs with | some (os, u, r) => some (AV.val true os, bt u, bt u, r) | none => none) = some (av, u, q, r) → (∀ l ∈ u, l.real = true) ∧ (∀ l ∈ q, l ∈ u) ∧
       ∃ tb : List (Lb × Lb), tb.map (·.1) = u ∧ (∀ p ∈ tb, p.2.iO = true) ∧ ∀ ρ : Lb → Option Lb, (∀ p ∈ tb, ρ p.1 = some p.2) → (∀ p ∈ r, ρ (.sp p.1 p.2) = none) → qa (c.map ρ) w i (yM c (.agg cs)) av (.agg vs) := by
     intro he
     cases hq : ee st m.lL cs with
     | none => simp [hq] at he
     | some p =>
       obtain ⟨os, us, rs⟩ := p; simp only [hq, Option.some.injEq, Prod.mk.injEq] at he; obtain ⟨rfl, rfl, rfl, rfl⟩ := he; obtain ⟨g1, g2⟩ := vals _ _ _ _ _ _ hl hq; exact ⟨g1, fun _ h => h, hZ i (.val true os) [] us, ko _ _ _ _, kq _ _ _ _, fun ρ hp hr => ⟨vs, rfl, g2 ρ (fun p jh => hp p (by simpa [hZ] using jh)) hr⟩⟩
   unfold dC at he
   cases m with
   | shr => exact other he
   | own => exact other he
   | pick _ => exact other he
   | io => exact other he
   | bo =>
     simp only at he
     cases hq : ee st true cs with
     | none => simp [hq] at he
     | some p =>
       obtain ⟨os, us, rs⟩ := p; simp only [hq] at he; obtain ⟨oU, uY⟩ := aD he; simp only [Option.some.injEq, Prod.mk.injEq] at uY; obtain ⟨rfl, rfl, rfl, rfl⟩ := uY; obtain ⟨g1, g2⟩ := vals _ _ _ _ _ _ hl hq; refine ⟨g1, by simp, hZ i (.val true os) [] us, ko _ _ _ _, kq _ _ _ _, fun ρ hp hr => ⟨vs, rfl, g2 ρ (fun p jh => hp p (by simpa [hZ] using jh)) hr, fun j o x ho hxj => ?_⟩⟩; obtain ⟨cx, u', r', k1, k2, k3⟩ := Ih cs hq j o ho; show KM (c.map ρ) w i (fun k => Gu c cs[k]?) j o x
       cases o with
       | di =>
         have := I6 k2; subst this; show Gu c cs[j]? = .nil; rw [k1]; rfl
       | own A =>
         obtain ⟨s, k, g, vw, B, rfl, hA, rfl, rfl, hB⟩ := KO k2; have uW : CV.ref s k g vw ∈ cs := List.mem_of_getElem? k1; have BH := List.all_eq_true.1 oU _ uW; have KP : vw = .full := by
           unfold Km at BH; rw [Bool.and_eq_true] at BH
           cases vw with
           | full => rfl
           | «from» _ => cases BH.1
           | sub _ _ => cases BH.1
         subst KP; have hxr := hl.2 j _ _ k1 hxj; have hs := hxr.2.2 B hA; have ha := uH h hA; have hρ : ρ (.sp s k) = some (.bB i j) := hp (.sp s k, .bB i j) (by
           have := tG (.bB i) 0 us j (.sp s k) k3; simpa [hZ] using this)
         have Yv : (fun k => Gu c cs[k]?) j = c.lc s k := by
           show Gu c cs[j]? = _; rw [k1]; rfl
         show OwnAt (c.map ρ) w (.bB i j) ((fun k => Gu c cs[k]?) j) { B with xs := View.full.app B.xs } x; rw [Yv]; refine ⟨hxr.1, hs, hB, ?_⟩; show match c.lc s k with
           | .nil => B.xs = []
           | .at b off cap => _
         unfold bA at ha
         cases fN : c.lc s k with
         | nil => rw [fN] at ha; exact ha
         | «at» b off cap =>
           rw [fN] at ha; obtain ⟨h0, h2, h3, h4⟩ := ha; rw [hB] at h0; exact ⟨(Cz.iT h0).trans hρ, h2, h3, h4.map hρ⟩
       | _ => trivial
 | one cx =>
   cases cx with
   | ptr b g off =>
     unfold dC at he; simp only at he
     cases hb : cX st b g with
     | none => simp [hb] at he
     | some cs =>
       simp only [hb] at he
       cases hq : ee st true cs with
       | none => simp [hq] at he
       | some p =>
         obtain ⟨os, us, rs⟩ := p; simp only [hq] at he; obtain ⟨ho, uY⟩ := aD he; have ho1 := Nat.eq_of_beq_eq_true ho; simp only [Option.some.injEq, Prod.mk.injEq] at uY; obtain ⟨rfl, rfl, rfl, rfl⟩ := uY; subst ho1; obtain ⟨sl, k1, k2, k3⟩ := fM hb; obtain ⟨h1, vs, ty, h2, h3⟩ := h.boxes b sl cs k1 k3; obtain ⟨g1, g2⟩ := vals _ _ _ _ _ _ h3 hq; refine ⟨fun l hl => ?_, fun l hl => List.mem_cons_of_mem _ hl, hZ i (.box os) [.box b] us, by rw [ko]; rfl, kq _ _ _ _, fun ρ hp hr => ⟨c.bx b, vs, ty, hx.2.2 cs hb, ?_, h2, g2 ρ (fun p jh => hp p (List.mem_append_right _ jh)) hr⟩⟩
         · rcases List.mem_cons.1 hl with rfl | hl
           · rfl
           · exact g1 l hl
         · exact (Cz.iT h1).trans (hp (.box b, .qD i) (by simp [hZ]))
   | ref s j g vw =>
     unfold dC at he; have other : (match ee st m.lL [.ref s j g vw] with | some (os, u, r) => some (AV.val false os, bt u, bt u, r) | none => none) = some (av, u, q, r) → (∀ l ∈ u, l.real = true) ∧ (∀ l ∈ q, l ∈ u) ∧
         ∃ tb : List (Lb × Lb), tb.map (·.1) = u ∧ (∀ p ∈ tb, p.2.iO = true) ∧ ∀ ρ : Lb → Option Lb, (∀ p ∈ tb, ρ p.1 = some p.2) → (∀ p ∈ r, ρ (.sp p.1 p.2) = none) → qa (c.map ρ) w i (yM c (.one (.ref s j g vw))) av x := by
       intro he
       cases hq : ee st m.lL [.ref s j g vw] with
       | none => simp [hq] at he
       | some p =>
         obtain ⟨os, us, rs⟩ := p; simp only [hq, Option.some.injEq, Prod.mk.injEq] at he; obtain ⟨rfl, rfl, rfl, rfl⟩ := he; exact single _ _ _ _ _ hx hq
     cases m with
     | shr => exact other he
     | own => exact other he
     | pick _ => exact other he
     | bo => exact other he
     | io =>
       cases vw with
       | full =>
         cases hA : aQ st s j g with
         | none => simp [hA] at he
         | some A =>
           simp only [hA] at he; obtain ⟨ho, uY⟩ := aD he; rw [Bool.and_eq_true] at ho; have ho := ho.1; simp only [Option.some.injEq, Prod.mk.injEq] at uY; obtain ⟨rfl, rfl, rfl, rfl⟩ := uY; refine ⟨by simp [Lb.real], by simp, [(.sp s j, .bB i 0)], rfl, by simp [Lb.iO], fun ρ hp _ => ?_⟩; have ha := uH h hA; have hs := hx.2.2 A hA; have hρ : ρ (.sp s j) = some (.bB i 0) := hp (.sp s j, .bB i 0) (by simp); refine ⟨hx.1, hs, ho, ?_⟩; show match c.lc s j with
             | .nil => A.xs = []
             | .at b off cap => _
           unfold bA at ha
           cases fN : c.lc s j with
           | nil => rw [fN] at ha; exact ha
           | «at» b off cap =>
             rw [fN] at ha; obtain ⟨h0, h2, h3, h4⟩ := ha; rw [ho] at h0; exact ⟨(Cz.iT h0).trans hρ, h2, h3, h4.map hρ⟩
       | «from» _ => simp at he
       | sub _ _ => simp at he
   | _ =>
     unfold dC at he; simp only at he
     split at he
     · rename_i os us rs hq; simp only [Option.some.injEq, Prod.mk.injEq] at he; obtain ⟨rfl, rfl, rfl, rfl⟩ := he; exact single _ _ _ _ _ hx hq
     · cases he
theorem Cn {w0 : World} {mu : Mu} {c : Cz} {st : St} {a : Act} {w : World} (h : Rel w0 mu c st a w) : (ms : List (Pm × V)) → (i : Nat) → (xs : List Value) → ms.length = xs.length → (∀ (k : Nat) (m : Pm × V) (x : Value), ms[k]? = some m → xs[k]? = some x → dV c st w m.2 x) →
   {cN : List AV} → {u q : List Lb} → {r : List (Nat × Nat)} → gq st ms = some (cN, u, q, r) →
   (∀ l ∈ u, l.real = true) ∧ (∀ l ∈ q, l ∈ u) ∧ ∃ tb : List (Lb × Lb), tb.map (·.1) = u ∧ (∀ p ∈ tb, p.2.iO = true) ∧ cN.length = ms.length ∧
     ∀ (ρ : Lb → Option Lb) (lc : Nat → Nat → Loc), (∀ (k : Nat) (m : Pm × V), ms[k]? = some m → lc (i + k) = yM c m.2) → (∀ p ∈ tb, ρ p.1 = some p.2) → (∀ p ∈ r, ρ (.sp p.1 p.2) = none) → vH (c.map ρ) w lc i cN xs
 | [], i, xs, hl, hx, cN, u, q, r, he => by
   simp only [gq, Option.some.injEq, Prod.mk.injEq] at he; obtain ⟨rfl, rfl, rfl, rfl⟩ := he; simp at hl; exact ⟨by simp, by simp, [], rfl, by simp, rfl, fun ρ lc _ _ _ => List.length_eq_zero_iff.1 hl.symm⟩
 | (m, v) :: ms, i, xs, hl, hx, cN, u, q, r, he => by
   cases xs with
   | nil => simp at hl
   | cons x xs =>
     unfold gq at he
     cases h1 : dC st m v with
     | none => simp [h1] at he
     | some p1 =>
       obtain ⟨av, u1, q1, r1⟩ := p1
       cases h2 : gq st ms with
       | none => simp [h1, h2] at he
       | some p2 =>
         obtain ⟨NN, u2, q2, r2⟩ := p2; simp only [h1, h2, Option.some.injEq, Prod.mk.injEq] at he; obtain ⟨rfl, rfl, rfl, rfl⟩ := he; obtain ⟨a1, a2, ta, a4, a5, a3⟩ := I8 h (hx 0 (m, v) x rfl rfl) h1 i; obtain ⟨b1, b2, tb, b3, b4, b6, b5⟩ := Cn h ms (i + 1) xs (by simpa using hl) (fun k m x hm rb => hx (k + 1) m x (by simpa using hm) (by simpa using rb)) h2; refine ⟨fun l hl => ?_, fun l hl => ?_, ta ++ tb, by simp [a4, b3], fun p hp => ?_, by simp [b6], fun ρ lc fN hp hr => ?_⟩
         · rcases List.mem_append.1 hl with hl | hl
           · exact a1 l hl
           · exact b1 l hl
         · rcases List.mem_append.1 hl with hl | hl
           · exact List.mem_append_left _ (a2 l hl)
           · exact List.mem_append_right _ (b2 l hl)
         · rcases List.mem_append.1 hp with hp | hp
           · exact a5 p hp
           · exact b4 p hp
         · refine ⟨x, xs, rfl, ?_, b5 ρ lc (fun k m hm => ?_) (fun p jh => hp p (List.mem_append_right _ jh)) (fun p jh => hr p (List.mem_append_right _ jh))⟩
           · have := fN 0 (m, v) rfl; simp only [Nat.add_zero] at this; rw [this]; exact a3 ρ (fun p jh => hp p (List.mem_append_left _ jh)) (fun p jh => hr p (List.mem_append_left _ jh))
           · have := fN (k + 1) m (by simpa using hm)
             rwa [show i + (k + 1) = i + 1 + k by omega] at this
end Go.TM
namespace Go.TM
open Go Go.RowKit
structure ja (X : Lb → Prop) (w0 : World) (mu : Mu) (c : Cz) (st : St) (a : Act) (w : World) : Prop where
 eO : ∀ t, dV c st w (bI st t) (a.eval (.tmp t))
 boxes : ∀ s sl cs, ¬ X (.box s) → nth st s = some sl → sl.box = some cs → tk c st w s cs
 aI : ∀ s j sl A, ¬ X (.sp s j) → nth st s = some sl → nth sl.aI j = some (some A) → bA c w s j A
 owned : ∀ b l, c.own b = some l → b < w.heap.size ∧ (l = .out ∨ w0.heap.size ≤ b ∨ mu.m b)
 free : ∀ b, b < w0.heap.size → c.own b = none → mu.m b ∨ mu.ok b
 kept : w.os = w0.os ∧ w.tape = w0.tape ∧ w.output = w0.output ∧ w0.heap.size ≤ w.heap.size
 old : ∀ k, k < w0.heap.size → ¬ mu.m k → w.heap[k]? = w0.heap[k]?
 plain : a.defers = []
 dK : ∀ p ∈ mu.an, Nx c st p
theorem ja.rel {w0 : World} {mu : Mu} {c : Cz} {st : St} {a : Act} {w : World} (h : ja (fun _ => False) w0 mu c st a w) : Rel w0 mu c st a w :=
 ⟨h.eO, fun s sl cs => h.boxes s sl cs id, fun s j sl A => h.aI s j sl A id, h.owned, h.free, h.kept, h.old, h.plain, h.dK⟩
structure yN (ρ : Lb → Lb) : Prop where
 other : ∀ l, (l = .out ∨ l.real = true) → ρ l = l
def Cz.dD (c : Cz) (ρ : Lb → Lb) (bx : Nat → Nat) (lc : Nat → Nat → Loc) : Cz := { bx := bx, lc := lc, own := fun b => (c.own b).map ρ }
theorem Cz.j8 {c : Cz} {ρ : Lb → Lb} {bx : Nat → Nat} {lc : Nat → Nat → Loc} {b : Nat} : (c.dD ρ bx lc).ok b ↔ c.ok b := by
 unfold Cz.ok Cz.dD; simp
theorem lZ (c : Cz) (w : World) (ρ : Lb → Lb) (bx : Nat → Nat) (lc : Nat → Nat → Loc) : gH w w c.ok (c.dD ρ bx lc).ok := ⟨Nat.le_refl _, fun _ _ _ => rfl, fun _ _ h => Cz.j8.2 h⟩
theorem ja.dD {X X' : Lb → Prop} {w0 : World} {mu : Mu} {c : Cz} {st aP : St} {a : Act} {w : World} (h : ja X w0 mu c st a w) {ρ : Lb → Lb} {bx : Nat → Nat} {lc : Nat → Nat → Loc} (hρ : yN ρ)
   (fB : Fw c st w (c.dD ρ bx lc) aP w) (TZ : ∀ t, dV (c.dD ρ bx lc) aP w (bI aP t) (a.eval (.tmp t)))
   (Yw : ∀ s sl cs, ¬ X' (.box s) → nth aP s = some sl → sl.box = some cs → tk (c.dD ρ bx lc) aP w s cs)
   (x6 : ∀ s j sl A, ¬ X' (.sp s j) → nth aP s = some sl → nth sl.aI j = some (some A) → bA (c.dD ρ bx lc) w s j A) : ja X' w0 mu (c.dD ρ bx lc) aP a w where
 eO := TZ
 boxes := Yw
 aI := x6
 owned b l hb := by
   unfold Cz.dD at hb; simp only [Option.map_eq_some_iff] at hb; obtain ⟨k, hk, e⟩ := hb; obtain ⟨h1, h2⟩ := h.owned b k hk; refine ⟨h1, h2.imp (fun e2 => ?_) id⟩; subst e2; rw [← e]; exact hρ.other _ (.inl rfl)
 free b hb h1 := h.free b hb (by unfold Cz.dD at h1; simpa using h1)
 kept := h.kept
 old := h.old
 plain := h.plain
 dK p hp := fB.dK (h.dK p hp)
theorem fH (st : St) (s j : Nat) (A : Option fK) (k : Nat) : ∃ f : Sl → Sl, (∀ x, (f x).v = x.v ∧ (f x).box = x.box ∧ (f x).bg = x.bg ∧ (f x).ag = x.ag ∧
     (∀ i, nth (f x).aI i = if k = s ∧ i = j then (nth x.aI i).map (fun _ => A) else nth x.aI i) ∧ (f x).ep = if k = s then x.ep + 1 else x.ep) ∧ nth (bf st s j A) k = (nth st k).map f := by
 unfold bf
 by_cases e : k = s
 · subst e; refine ⟨fun s => { s with aI := kP (fun _ => A) s.aI j, ep := s.ep + 1 }, fun x => ⟨rfl, rfl, rfl, rfl, fun i => ?_, by simp⟩, hY _ _ _⟩; simp only [cL, true_and]
 · refine ⟨id, fun x => ⟨rfl, rfl, rfl, rfl, fun i => ?_, by simp [e]⟩, by rw [ki _ _ e]; simp⟩; simp [e]
theorem Aq (st : St) (s j : Nat) (A : Option fK) (t : Nat) : kU st t ≤ kU (bf st s j A) t ∧ (kU (bf st s j A) t = kU st t → t ≠ s ∨ nth st t = none) := by
 obtain ⟨f, hf, hk⟩ := fH st s j A t; unfold kU; rw [hk]
 cases nth st t with
 | none => simp
 | some x =>
   simp only [Option.map_some]; rw [(hf x).2.2.2.2.2]
   by_cases e : t = s
   · rw [if_pos e]; exact ⟨by omega, fun h => by omega⟩
   · rw [if_neg e]; exact ⟨Nat.le_refl _, fun _ => .inl e⟩
theorem tH (st : St) (s j : Nat) (A : Option fK) (t : Nat) : bI (bf st s j A) t = bI st t := by
 obtain ⟨f, hf, hk⟩ := fH st s j A t; unfold bI; rw [hk]
 cases nth st t with
 | none => rfl
 | some x => exact (hf x).1
theorem Ar (st : St) (s j : Nat) (A : Option fK) (t : Nat) : cD (bf st s j A) t = cD st t ∧ fI (bf st s j A) t = fI st t := by
 obtain ⟨f, hf, hk⟩ := fH st s j A t; unfold cD fI; rw [hk]
 cases nth st t with
 | none => exact ⟨rfl, rfl⟩
 | some x => exact ⟨(hf x).2.2.2.1, (hf x).2.2.1⟩
theorem Ew (st : St) (s j : Nat) (A : Option fK) (b g : Nat) : cX (bf st s j A) b g = cX st b g := by
 obtain ⟨f, hf, hk⟩ := fH st s j A b; unfold cX; rw [hk]
 cases nth st b with
 | none => rfl
 | some x => simp [(hf x).2.1, (hf x).2.2.1]
theorem mj {st : St} {a j g : Nat} {sl : Sl} {A : fK} (h1 : nth st a = some sl) (h2 : sl.ag = g) (h3 : nth sl.aI j = some (some A)) : aQ st a j g = some A := by
 unfold aQ; rw [h1]; simp [h2, h3]
theorem x7 {c : Cz} {st : St} {w : World} {s j g : Nat} {A : Option fK} {A0 : fK} (h0 : aQ st s j g = some A0 ∨ A = none) (hA : ∀ B, A = some B → B.r.width = A0.r.width ∧ B.xs.length = A0.xs.length) (ρ : Lb → Lb) :
   Fw c st w (c.dD ρ c.bx c.lc) (bf st s j A) w where
 stays := lZ c w ρ _ _
 refs a' j' g' A' hg dL := by
   obtain ⟨sl, k1, k2, k3⟩ := a7 dL; obtain ⟨f, hf, hk⟩ := fH st s j A a'; rw [hk] at k1
   cases hx : nth st a' with
   | none => rw [hx] at k1; simp at k1
   | some x =>
     rw [hx] at k1; simp at k1; subst k1; rw [(hf x).2.2.2.1] at k2; rw [(hf x).2.2.2.2.1 j'] at k3
     by_cases e : a' = s ∧ j' = j
     · rw [if_pos e] at k3; obtain ⟨rfl, rfl⟩ := e
       cases hq : nth x.aI j' with
       | none => simp [hq] at k3
       | some A1 =>
         simp only [hq, Option.map_some, Option.some.injEq] at k3; rcases h0 with h0 | h0
         · obtain ⟨sl, k1', k2', k3'⟩ := a7 h0; rw [hx] at k1'; cases k1'; obtain ⟨e1, e2⟩ := hA A' k3; refine ⟨A0, mj hx k2 k3', e1, e2, rfl, fun he => ?_⟩; rcases (Aq st a' j' A a').2 he with h | h
           · exact absurd rfl h
           · rw [hx] at h; cases h
         · rw [h0] at k3; cases k3
     · rw [if_neg e] at k3; exact ⟨A', mj hx k2 k3, rfl, rfl, rfl, fun _ => ⟨rfl, fun _ _ _ _ => rfl⟩⟩
 zF b g' cs _ h := ⟨⟨cs, by rwa [Ew] at h⟩, rfl⟩
 gA a' := by rw [(Ar st s j A a').1]; exact Nat.le_refl _
 gB a' := by rw [(Ar st s j A a').2]; exact Nat.le_refl _
 gE a' := (Aq st s j A a').1
theorem tk.dD {c : Cz} {st aP : St} {w : World} {ρ : Lb → Lb} {bx : Nat → Nat} {lc : Nat → Nat → Loc} (hρ : yN ρ) (fB : Fw c st w (c.dD ρ bx lc) aP w) {s : Nat} {cs : List CV} (h : tk c st w s cs) (hb : bx s = c.bx s) : tk (c.dD ρ bx lc) aP w s cs := by
 refine h.go fB hb ?_ rfl; unfold Cz.dD; simp only; rw [h.1]; simp [hρ.other (.box s) (.inr rfl)]
theorem bA.dD {c : Cz} {w : World} {ρ : Lb → Lb} {bx : Nat → Nat} {lc : Nat → Nat → Loc} (hρ : yN ρ) {s j : Nat} {A : fK} (h : bA c w s j A) (hl : lc s j = c.lc s j) : bA (c.dD ρ bx lc) w s j A := by
 refine h.go (lZ c w ρ bx lc) hl (fun b h0 => ⟨rfl, ?_⟩); unfold Cz.dD; simp only; rw [h0]; simp [hρ.other (.sp s j) (.inr rfl)]
theorem oV : yN id := ⟨fun _ _ => rfl⟩
theorem ja.kill {X : Lb → Prop} {w0 : World} {mu : Mu} {c : Cz} {st : St} {a : Act} {w : World} (h : ja X w0 mu c st a w) (s j : Nat) : ja (fun l => X l ∧ l ≠ .sp s j) w0 mu (c.dD id c.bx c.lc) (bf st s j none) a w ∧ Fw c st w (c.dD id c.bx c.lc) (bf st s j none) w := by
 have fB : Fw c st w (c.dD id c.bx c.lc) (bf st s j none) w := x7 (g := 0) (A0 := { r := .nil, own := false, xs := [] }) (.inr rfl) (fun _ e => by cases e) id; refine ⟨h.dD oV fB (fun t => by rw [tH]; exact fB.kZ (h.eO t)) (fun k sl cs hX hs hb => ?_) (fun k i sl A hX hs hA => ?_), fB⟩
 · obtain ⟨f, hf, hk⟩ := fH st s j none k; rw [hk] at hs
   cases hx : nth st k with
   | none => rw [hx] at hs; simp at hs
   | some x =>
     rw [hx] at hs; simp at hs; subst hs; rw [(hf x).2.1] at hb; exact (h.boxes k x cs (fun I9 => hX ⟨I9, by simp⟩) hx hb).dD oV fB rfl
 · obtain ⟨f, hf, hk⟩ := fH st s j none k; rw [hk] at hs
   cases hx : nth st k with
   | none => rw [hx] at hs; simp at hs
   | some x =>
     rw [hx] at hs; simp at hs; subst hs; rw [(hf x).2.2.2.2.1 i] at hA
     by_cases e : k = s ∧ i = j
     · rw [if_pos e] at hA
       cases hq : nth x.aI i <;> simp [hq] at hA
     · rw [if_neg e] at hA; exact (h.aI k i x A (fun I9 => hX ⟨I9, by rintro e'; injection e' with e1 e2; exact e ⟨e1, e2⟩⟩) hx hA).dD oV rfl
theorem ja.mono {X X' : Lb → Prop} {w0 : World} {mu : Mu} {c : Cz} {st : St} {a : Act} {w : World} (h : ja X w0 mu c st a w) (hX : ∀ l, X l → X' l) : ja X' w0 mu c st a w :=
 ⟨h.eO, fun s sl cs hn => h.boxes s sl cs (fun h => hn (hX _ h)), fun s j sl A hn => h.aI s j sl A (fun h => hn (hX _ h)), h.owned, h.free, h.kept, h.old, h.plain, h.dK⟩
def qt (i z s j : Nat) : Lb → Lb
 | .bB x y => if x = i ∧ y = z then .sp s j else .bB x y
 | l => l
def nX (i b : Nat) : Lb → Lb
 | .bB x y => if x = i then .sp b y else .bB x y
 | .qD x => if x = i then .box b else .qD x
 | l => l
theorem Dl (i z s j : Nat) : yN (qt i z s j) := ⟨fun l h => by cases l <;> simp [qt, Lb.real] at h ⊢⟩
theorem BR (i b : Nat) : yN (nX i b) := ⟨fun l h => by cases l <;> simp [nX, Lb.real] at h ⊢⟩
theorem OwnAt.arr {c : Cz} {w : World} {l : Lb} {Yx : Loc} {A : fK} {v : Value} (h : OwnAt c w l Yx A v) {ρ : Lb → Lb} {bx : Nat → Nat} {lc : Nat → Nat → Loc} {s j : Nat} (hl : lc s j = Yx) (hρ : ρ l = .sp s j) : bA (c.dD ρ bx lc) w s j A := by
 obtain ⟨_, _, h3, h4⟩ := h; unfold bA; show match lc s j with | .nil => _ | .at b off cap => _
 rw [hl]
 cases Yx with
 | nil => exact h4
 | «at» b off cap =>
   obtain ⟨g1, g2, g3, g4⟩ := h4; rw [h3]; have hq : ∀ k, c.own k = some l → (c.dD ρ bx lc).own k = some (.sp s j) := by
     intro k hk; show (c.own k).map ρ = _; rw [hk]; simp [hρ]
   exact ⟨hq b g1, g2, g3, g4.go (fun _ => lZ c w ρ bx lc) rfl (fun _ k hk => ⟨rfl, hq k hk⟩)⟩
theorem ja.io {X : Lb → Prop} {w0 : World} {mu : Mu} {c : Cz} {st : St} {a : Act} {w : World} (h : ja X w0 mu c st a w) {s j g i z : Nat} {A B : fK} {v : Value} (hA : aQ st s j g = some A) (hw : B.r.width = A.r.width) (hn : B.xs.length = A.xs.length)
   (hB : OwnAt c w (.bB i z) (c.lc s j) B v) : ja (fun l => X l ∧ l ≠ .sp s j) w0 mu (c.dD (qt i z s j) c.bx c.lc) (bf st s j (some B)) a w ∧ Fw c st w (c.dD (qt i z s j) c.bx c.lc) (bf st s j (some B)) w := by
 have fB : Fw c st w (c.dD (qt i z s j) c.bx c.lc) (bf st s j (some B)) w := x7 (.inl hA) (fun _ e => by cases e; exact ⟨hw, hn⟩) _; have ht := Dl i z s j; refine ⟨h.dD ht fB (fun t => by rw [tH]; exact fB.kZ (h.eO t)) (fun k sl cs hX hs hb => ?_) (fun k q sl A' hX hs dL => ?_), fB⟩
 · obtain ⟨f, hf, hk⟩ := fH st s j (some B) k; rw [hk] at hs
   cases hx : nth st k with
   | none => rw [hx] at hs; simp at hs
   | some x =>
     rw [hx] at hs; simp at hs; subst hs; rw [(hf x).2.1] at hb; exact (h.boxes k x cs (fun I9 => hX ⟨I9, by simp⟩) hx hb).dD ht fB rfl
 · obtain ⟨f, hf, hk⟩ := fH st s j (some B) k; rw [hk] at hs
   cases hx : nth st k with
   | none => rw [hx] at hs; simp at hs
   | some x =>
     rw [hx] at hs; simp at hs; subst hs; rw [(hf x).2.2.2.2.1 q] at dL
     by_cases e : k = s ∧ q = j
     · rw [if_pos e] at dL; obtain ⟨rfl, rfl⟩ := e
       cases hq : nth x.aI q with
       | none => simp [hq] at dL
       | some A1 =>
         simp only [hq, Option.map_some, Option.some.injEq] at dL; subst dL; exact hB.arr rfl (by simp [qt])
     · rw [if_neg e] at dL; exact (h.aI k q x A' (fun I9 => hX ⟨I9, by rintro e'; injection e' with e1 e2; exact e ⟨e1, e2⟩⟩) hx dL).dD ht rfl
theorem ba.cells {c : Cz} {w : World} {f : Nat → Lb} : (os : List OV) → (j : Nat) → (vs : List Value) → ba c w f j os vs →
   ∃ lcs : Nat → Loc, (∀ k A, nth (aV os) k = some (some A) → ∃ v, OwnAt c w (f (j + k)) (lcs (j + k)) A v) ∧
     ∀ (c2 : Cz) (fG : St) (d g : Nat), (∀ b, c.ok b → c2.ok b) → (∀ k, k < os.length → c2.lc d (j + k) = lcs (j + k)) → (∀ k A, k < os.length → aQ fG d (j + k) g = some A → nth (aV os) k = some (some A)) → g ≤ cD fG d → ek c2 fG w (aU d g j os) vs
 | [], j, vs, h => by
   subst h; exact ⟨fun _ => .nil, fun k A hA => by simp [aV] at hA, fun _ _ _ _ _ _ _ _ => ⟨rfl, fun i x v hx => by simp [aU] at hx⟩⟩
 | o :: os, j, vs, h => by
   obtain ⟨v, l, rfl, hh, qH⟩ : ∃ v l, vs = v :: l ∧ ba c w f (j + 1) os l ∧ ∃ lc, (∀ A, o.arr = some A → OwnAt c w (f j) lc A v) ∧ ∀ (c2 : Cz) (fG : St) (d g : Nat), (∀ b, c.ok b → c2.ok b) → c2.lc d j = lc → (∀ A, aQ fG d j g = some A → o.arr = some A) → g ≤ cD fG d →
       ∃ x, aU d g j (o :: os) = x :: aU d g (j + 1) os ∧ ir c2 fG w x v := by
     cases o with
     | int k n => obtain ⟨l, h1, h2⟩ := h; exact ⟨_, l, h1, h2, .nil, (fun _ e => by cases e), fun c2 fG d g _ _ _ _ => ⟨_, rfl, rfl⟩⟩
     | bool b => obtain ⟨l, h1, h2⟩ := h; exact ⟨_, l, h1, h2, .nil, (fun _ e => by cases e), fun c2 fG d g _ _ _ _ => ⟨_, rfl, rfl⟩⟩
     | str b => obtain ⟨l, h1, h2⟩ := h; exact ⟨_, l, h1, h2, .nil, (fun _ e => by cases e), fun c2 fG d g _ _ _ _ => ⟨_, rfl, rfl⟩⟩
     | di => obtain ⟨l, h1, h2⟩ := h; exact ⟨_, l, h1, h2, .nil, (fun _ e => by cases e), fun c2 fG d g _ _ _ _ => ⟨_, rfl, rfl⟩⟩
     | shr r xs =>
       obtain ⟨v, l, h1, h2, h3⟩ := h; exact ⟨v, l, h1, h3, .nil, (fun _ e => by cases e), fun c2 fG d g ff _ _ _ => ⟨.shr r xs, rfl, bz.stays ⟨Nat.le_refl _, fun _ _ _ => rfl, fun b _ hb => ff b hb⟩ _ _ _ h2⟩⟩
     | j6 r xs =>
       obtain ⟨v, l, h1, ⟨b, o, e1, e2, e3, e4⟩, h3⟩ := h; exact ⟨v, l, h1, h3, .nil, (fun _ e => by cases e), fun c2 fG d g ff _ _ _ => ⟨.ql r xs 0, rfl, b, o, e1, e2, ff b e3, fun x hx => bU.stays ⟨Nat.le_refl _, fun _ _ _ => rfl, fun b _ hb => ff b hb⟩ _ _ _ _ rfl (e4 x hx)⟩⟩
     | fn g rs xs =>
       obtain ⟨v, l, h1, h2, h3⟩ := h; exact ⟨v, l, h1, h3, .nil, (fun _ e => by cases e), fun c2 fG d g' ff _ _ _ => ⟨.fn g rs xs, rfl, h2.stays ⟨Nat.le_refl _, fun _ _ _ => rfl, fun b _ hb => ff b hb⟩⟩⟩
     | own A =>
       obtain ⟨v, l, h1, ⟨lc, h2⟩, h3⟩ := h; refine ⟨v, l, h1, h3, lc, (fun A' e => by cases e; exact h2), fun c2 fG d g _ fN x6 hg => ⟨.ref d j g .full, rfl, h2.1, hg, fun A' dL => ?_⟩⟩; have e := x6 A' dL
       cases e
       rw [fN]; exact h2.2.1
   obtain ⟨lc, q1, q2⟩ := qH; obtain ⟨lcs, g1, g2⟩ := ba.cells os (j + 1) l hh; refine ⟨fun k => if k = j then lc else lcs k, fun k A' dL => ?_, fun c2 fG d g ff fN x6 hg => ?_⟩
   · cases k with
     | zero =>
       simp only [aV, nth, Option.some.injEq] at dL; exact ⟨v, by simpa using q1 A' dL⟩
     | succ k =>
       have := g1 k A' dL; rw [show j + 1 + k = j + (k + 1) by omega] at this; show ∃ v, OwnAt c w (f (j + (k + 1))) (if j + (k + 1) = j then lc else lcs (j + (k + 1))) A' v; rw [if_neg (by omega)]; exact this
   · have ez := g2 c2 fG d g ff (fun k hk => by
       have : c2.lc d (j + (k + 1)) = if j + (k + 1) = j then lc else lcs (j + (k + 1)) := fN (k + 1) (by simp; exact hk)
       rw [if_neg (by omega)] at this; rw [show j + 1 + k = j + (k + 1) by omega]; exact this) (fun k A' hk dL => by
         have := x6 (k + 1) A' (by simp; exact hk) (by rw [show j + (k + 1) = j + 1 + k by omega]; exact dL); exact this) hg
     have h0 : c2.lc d j = lc := by
       have := fN 0 (by simp); simpa using this
     obtain ⟨x, e1, e2⟩ := q2 c2 fG d g ff h0 (fun A hA => by
       have := x6 0 A (by simp) hA; simpa [aV, nth] using this) hg
     rw [e1]; refine ⟨by simp [ez.1], fun k y z hy hz => ?_⟩
     cases k with
     | zero =>
       simp only [List.getElem?_cons_zero, Option.some.injEq] at hy hz; subst hy hz; exact e2
     | succ k => exact ez.2 k y z (by simpa using hy) (by simpa using hz)
theorem ja.boxed {X : Lb → Prop} {w0 : World} {mu : Mu} {c : Cz} {st : St} {a : Act} {w : World} (h : ja X w0 mu c st a w) {b g i : Nat} {s0 : Sl} {J4 : List CV} {os : List OV} {v : Value} (gm : nth st b = some s0) (zw : cX st b g = some J4) (hv : v = .pointer (some ⟨c.bx b, 0, none⟩))
   (hB : Cl c w i os v) : ∃ c', ja (fun l => X l ∧ l ≠ .box b) w0 mu c' (kP (fun s => { s with box := some (aU b (s0.ag + 1) 0 os), aI := aV os, ag := s0.ag + 1 }) st b) a w ∧
     Fw c st w c' (kP (fun s => { s with box := some (aU b (s0.ag + 1) 0 os), aI := aV os, ag := s0.ag + 1 }) st b) w ∧ Pass c c' (fun l => (∀ y, l ≠ .bB i y) ∧ l ≠ .qD i) := by
 obtain ⟨lN, vs, ty, h1, h2, h3, h4⟩ := hB; obtain ⟨lcs, g1, g2⟩ := ba.cells os 0 _ h4; rw [hv] at h1; have e : c.bx b = lN := by injection h1 with h1; injection h1 with h1; injection h1
 obtain ⟨_, T0, NB, NO⟩ := fM zw; rw [gm] at T0; cases T0
 let c' := c.dD (nX i b) c.bx (fun s j => if s = b then lcs j else c.lc s j)
 let aP := kP (fun s => { s with box := some (aU b (s0.ag + 1) 0 os), aI := aV os, ag := s0.ag + 1 }) st b
 have hn : ∀ s, nth aP s = if s = b then some { s0 with box := some (aU b (s0.ag + 1) 0 os), aI := aV os, ag := s0.ag + 1 } else nth st s := by
   intro s; show nth (kP _ st b) s = _; rw [cL]
   by_cases e : s = b
   · subst e; simp [gm]
   · simp [e]
 have x8 : cD aP b = s0.ag + 1 := by unfold cD; rw [hn]; simp
 have Ey : cD st b = s0.ag := by unfold cD; rw [gm]
 have ht := BR i b; have fB : Fw c st w c' aP w := {
   stays := lZ c w _ _ _
   refs := fun a' j' g' A' hg dL => by
     obtain ⟨sl, k1, k2, k3⟩ := a7 dL; rw [hn] at k1
     by_cases e : a' = b
     · rw [if_pos e] at k1
       cases k1
       subst e; simp only at k2; omega
     · rw [if_neg e] at k1; exact ⟨A', mj k1 k2 k3, rfl, rfl, by show (if a' = b then _ else _) = _; rw [if_neg e], fun _ => ⟨rfl, fun _ _ _ _ => rfl⟩⟩
   zF := fun b' g' lF hg Gg => by
     obtain ⟨sl, k1, k2, k3⟩ := fM Gg; rw [hn] at k1
     by_cases e : b' = b
     · rw [if_pos e] at k1
       cases k1
       subst e; exact ⟨⟨J4, by unfold cX; rw [gm]; simp at k2; simp [k2, NO]⟩, rfl⟩
     · rw [if_neg e] at k1; exact ⟨⟨lF, by unfold cX; rw [k1]; simp [k2, k3]⟩, rfl⟩
   gA := fun a' => by
     by_cases e : a' = b
     · subst e; rw [x8, Ey]; omega
     · unfold cD; rw [hn, if_neg e]; exact Nat.le_refl _
   gB := fun a' => by
     by_cases e : a' = b
     · subst e; unfold fI; rw [hn, if_pos rfl, gm]; exact Nat.le_refl _
     · unfold fI; rw [hn, if_neg e]; exact Nat.le_refl _
   gE := fun a' => by
     by_cases e : a' = b
     · subst e; unfold kU; rw [hn, if_pos rfl, gm]; exact Nat.le_refl _
     · unfold kU; rw [hn, if_neg e]; exact Nat.le_refl _ }
 have Ez : ∀ k A, aQ aP b k (s0.ag + 1) = some A → nth (aV os) k = some (some A) := by
   intro k A hA; obtain ⟨sl, k1, k2, k3⟩ := a7 hA; rw [hn, if_pos rfl] at k1
   cases k1
   exact k3
 refine ⟨c', h.dD ht fB (fun t => ?_) (fun s sl cs hX hs hb => ?_) (fun s j sl A hX hs hA => ?_), fB, ⟨fun k l hl hk => ?_, fun k hk => Cz.j8.2 hk⟩⟩
 · have : bI aP t = bI st t := by
     unfold bI; rw [hn]
     by_cases e : t = b
     · subst e; rw [if_pos rfl, gm]
     · rw [if_neg e]
   rw [this]; exact fB.kZ (h.eO t)
 · rw [hn] at hs
   by_cases e' : s = b
   · subst e'; rw [if_pos rfl] at hs
     cases hs
     simp only [Option.some.injEq] at hb; subst hb; refine ⟨?_, vs, ty, by show w.heap[c.bx s]? = _; rw [e]; exact h3, ?_⟩
     · show (c.own (c.bx s)).map (nX i s) = some (.box s); rw [e, h2]; simp [nX]
     · exact g2 c' aP s (s0.ag + 1) (fun b hb => Cz.j8.2 hb) (fun k _ => by show (if s = s then _ else _) = _; rw [if_pos rfl]) (fun k A _ hA => Ez k A (by simpa using hA)) (by rw [x8]; exact Nat.le_refl _)
   · rw [if_neg e'] at hs; exact (h.boxes s sl cs (fun I9 => hX ⟨I9, by rintro e2; injection e2 with e2; exact e' e2⟩) hs hb).dD ht fB rfl
 · rw [hn] at hs
   by_cases e' : s = b
   · subst e'; rw [if_pos rfl] at hs
     cases hs
     obtain ⟨v', lH⟩ := g1 j A hA; exact lH.arr (by simp) (by simp [nX])
   · rw [if_neg e'] at hs; exact (h.aI s j sl A (fun I9 => hX ⟨I9, by simp⟩) hs hA).dD ht (by simp [e'])
 · show (c.own k).map (nX i b) = _; rw [hk]; simp only [Option.map_some, Option.some.injEq]
   cases l with
   | bB x y => simp only [nX]; rw [if_neg]; rintro rfl; exact hl.1 y rfl
   | qD x => simp only [nX]; rw [if_neg]; rintro rfl; exact hl.2 rfl
   | _ => rfl
end Go.TM
namespace Go.TM
open Go Go.RowKit
def Lb.EA : Lb → Option Lb
 | .bB i j => some (.bB i j)
 | .qD i => some (.qD i)
 | .gn j => some (.gn j)
 | _ => none
noncomputable def Cz.merge (c c1 : Cz) (n : Nat) (m : Nat → Prop) : Cz :=
 { bx := c.bx, lc := c.lc, own := fun b => have := Classical.propDecidable (b < n ∧ ¬ m b); if b < n ∧ ¬ m b then c.own b else (c1.own b).bind Lb.EA }
theorem Cz.qK {c c1 : Cz} {n : Nat} {m : Nat → Prop} {b : Nat} (h : b < n ∧ ¬ m b) : (c.merge c1 n m).own b = c.own b := by
 unfold Cz.merge; simp only; rw [if_pos h]
theorem Cz.x9 {c c1 : Cz} {n : Nat} {m : Nat → Prop} {b : Nat} (h : ¬ (b < n ∧ ¬ m b)) : (c.merge c1 n m).own b = (c1.own b).bind Lb.EA := by
 unfold Cz.merge; simp only; rw [if_neg h]
theorem oW (st : St) (s : Nat) : nth (wO st) s = (nth st s).map fun x => { x with ep := x.ep + 1 } := by
 unfold wO; rw [fm, fm, List.getElem?_map]
theorem Ja (st : St) (t : Nat) : bI (wO st) t = bI st t := by
 unfold bI; rw [oW]
 cases nth st t <;> rfl
theorem Jb (st : St) (a j g : Nat) : aQ (wO st) a j g = aQ st a j g := by
 unfold aQ; rw [oW]
 cases nth st a <;> rfl
theorem Jc (st : St) (b g : Nat) : cX (wO st) b g = cX st b g := by
 unfold cX; rw [oW]
 cases nth st b <;> rfl
theorem EB (st : St) (a : Nat) : cD (wO st) a = cD st a ∧ fI (wO st) a = fI st a := by
 unfold cD fI; rw [oW]
 cases nth st a <;> exact ⟨rfl, rfl⟩
theorem EC (st : St) (a : Nat) : kU st a ≤ kU (wO st) a ∧ (kU (wO st) a = kU st a → nth st a = none) := by
 unfold kU; rw [oW]
 cases nth st a <;> simp
theorem Rel.T1 {w0 : World} {mu : Mu} {c : Cz} {st : St} {a : Act} {w : World} (h : Rel w0 mu c st a w) {μ : Mu} {c1 : Cz} {w' : World} (hb : yL w μ c1 w') {X : Lb → Prop} (hm : ∀ b, μ.m b → ∃ l, c.own b = some l ∧ X l) (hX : ∀ l, X l → l ≠ .out) :
   ja X w0 mu (c.merge c1 w.heap.size μ.m) (wO st) a w' ∧ Fw c st w (c.merge c1 w.heap.size μ.m) (wO st) w' ∧ (∀ b l, c.own b = some l → ¬ X l → w'.heap[b]? = w.heap[b]? ∧ (c.merge c1 w.heap.size μ.m).own b = c.own b) ∧ (∀ b l, l.EA = some l → c1.own b = some l → (c.merge c1 w.heap.size μ.m).own b = some l) ∧ ((∀ b, μ.ok b → c.own b = none) → ∀ b, c1.ok b → (c.merge c1 w.heap.size μ.m).ok b) := by
 have jv : w.heap.size ≤ w'.heap.size := hb.kept.2.2.2; have qn : gH w w' c.ok (c.merge c1 w.heap.size μ.m).ok := {
   size := jv
   block := fun b bP ff => hb.old b bP (fun Ac => by
     obtain ⟨l, hl, _⟩ := hm b Ac; unfold Cz.ok at ff; rw [ff] at hl; cases hl)
   ok := fun b bP ff => by
     unfold Cz.ok; rw [Cz.qK ⟨bP, fun Ac => by
       obtain ⟨l, hl, _⟩ := hm b Ac; unfold Cz.ok at ff; rw [ff] at hl; cases hl⟩]
     exact ff }
 have fB : Fw c st w (c.merge c1 w.heap.size μ.m) (wO st) w' := {
   stays := qn
   refs := fun a' j g A' _ hA => by
     rw [Jb] at hA; refine ⟨A', hA, rfl, rfl, rfl, fun he => ?_⟩; have := (EC st a').2 he; unfold aQ at hA; rw [this] at hA
     cases hA
   zF := fun b g cs _ hc => ⟨⟨cs, by rwa [Jc] at hc⟩, rfl⟩
   gA := fun a' => by rw [(EB st a').1]; exact Nat.le_refl _
   gB := fun a' => by rw [(EB st a').2]; exact Nat.le_refl _
   gE := fun a' => (EC st a').1 }
 have keep : ∀ b l, c.own b = some l → ¬ X l → w'.heap[b]? = w.heap[b]? ∧ (c.merge c1 w.heap.size μ.m).own b = c.own b := by
   intro b l hl hn; have bP := (h.owned b l hl).1; have Ac : ¬ μ.m b := fun Ac => by
     obtain ⟨l', vi, hx⟩ := hm b Ac; rw [hl] at vi; cases vi; exact hn hx
   exact ⟨hb.old b bP Ac, Cz.qK ⟨bP, Ac⟩⟩
 refine ⟨⟨fun t => by rw [Ja]; exact fB.kZ (h.eO t), fun s sl cs hn hs zw => ?_, fun s j sl A hn hs hA => ?_, fun b l hl => ?_, fun b bP hl => ?_, ?_, fun k hk Xy => ?_, h.plain, fun p hp => fB.dK (h.dK p hp)⟩, fB, keep, fun b l hk hl => ?_, fun ff b h1 => ?_⟩
 · rw [oW] at hs; obtain ⟨OY, gm, rfl⟩ := Option.map_eq_some_iff.1 hs; have h0 := h.boxes s OY cs gm zw; obtain ⟨k1, k2⟩ := keep _ _ h0.1 hn; exact h0.go fB rfl k2 k1
 · rw [oW] at hs; obtain ⟨OY, gm, rfl⟩ := Option.map_eq_some_iff.1 hs; have h0 := h.aI s j OY A gm hA; exact h0.go qn rfl (fun b g1 => keep b _ g1 hn)
 · by_cases e : b < w.heap.size ∧ ¬ μ.m b
   · rw [Cz.qK e] at hl; have := h.owned b l hl; exact ⟨Nat.lt_of_lt_of_le this.1 jv, this.2⟩
   · rw [Cz.x9 e] at hl; obtain ⟨k, hk, e2⟩ := Option.bind_eq_some_iff.1 hl; obtain ⟨g1, g2⟩ := hb.owned b k hk; refine ⟨g1, .inr ?_⟩; have yG : k ≠ .out := by rintro rfl; simp [Lb.EA] at e2
     by_cases bP : b < w.heap.size
     · have Ac : μ.m b := Classical.not_not.1 (fun h => e ⟨bP, h⟩); obtain ⟨l', vi, hx⟩ := hm b Ac; rcases (h.owned b l' vi).2 with q | q
       · exact absurd q (hX l' hx)
       · exact q
     · have := h.kept.2.2.2; exact .inl (by omega)
 · by_cases e : b < w.heap.size ∧ ¬ μ.m b
   · rw [Cz.qK e] at hl; exact h.free b bP hl
   · have Qx : b < w.heap.size := Nat.lt_of_lt_of_le bP h.kept.2.2.2; have Ac : μ.m b := Classical.not_not.1 (fun h => e ⟨Qx, h⟩); obtain ⟨l', vi, hx⟩ := hm b Ac; rcases (h.owned b l' vi).2 with q | q | q
     · exact absurd q (hX l' hx)
     · omega
     · exact .inl q
 · exact ⟨hb.kept.1.trans h.kept.1, hb.kept.2.1.trans h.kept.2.1, hb.kept.2.2.1.trans h.kept.2.2.1, Nat.le_trans h.kept.2.2.2 jv⟩
 · have Qx : k < w.heap.size := Nat.lt_of_lt_of_le hk h.kept.2.2.2; rw [hb.old k Qx (fun Ac => ?_)]
   · exact h.old k hk Xy
   · obtain ⟨l', vi, hx⟩ := hm k Ac; rcases (h.owned k l' vi).2 with q | q | q
     · exact hX l' hx q
     · omega
     · exact Xy q
 · rw [Cz.x9 (fun e => ?_), hl]
   · exact hk
   · rcases (hb.owned b l hl).2 with q | q | q
     · subst q; simp [Lb.EA] at hk
     · omega
     · exact e.2 q
 · unfold Cz.ok at h1 ⊢
   by_cases e : b < w.heap.size ∧ ¬ μ.m b
   · rw [Cz.qK e]; rcases hb.free b e.1 h1 with q | q
     · exact absurd q e.2
     · exact ff b q
   · rw [Cz.x9 e, h1]; rfl
theorem Cz.ED (c : Cz) (bx : Nat → Nat) (lc : Nat → Nat → Loc) : (c.dD id bx lc).own = c.own := by
 funext b
 unfold Cz.dD; simp
theorem vI {w0 : World} {mu : Mu} {a : Act} {w : World} : (ks : List Lb) → {X : Lb → Prop} → {c : Cz} → {st : St} → ja X w0 mu c st a w →
   ∃ c', ja (fun l => X l ∧ ∀ s j, Lb.sp s j ∈ ks → l ≠ .sp s j) w0 mu c' (mg st ks) a w ∧ Fw c st w c' (mg st ks) w ∧ c'.own = c.own
 | [], X, c, st, h => ⟨c, h.mono (fun l hl => ⟨hl, by simp⟩), Fw.refl c st w, rfl⟩
 | k :: ks, X, c, st, h => by
   have skip : mg st (k :: ks) = mg st ks → (∀ s j, k ≠ .sp s j) → ∃ c', ja (fun l => X l ∧ ∀ s j, Lb.sp s j ∈ k :: ks → l ≠ .sp s j) w0 mu c' (mg st (k :: ks)) a w ∧ Fw c st w c' (mg st (k :: ks)) w ∧ c'.own = c.own := by
     intro e hk; obtain ⟨c', h1, h2, h3⟩ := vI ks h; rw [e]; refine ⟨c', h1.mono (fun l hl => ⟨hl.1, fun s j hm => ?_⟩), h2, h3⟩; rcases List.mem_cons.1 hm with e2 | hm
     · exact absurd e2.symm (hk s j)
     · exact hl.2 s j hm
   cases k with
   | sp s j =>
     obtain ⟨h1, h2⟩ := h.kill s j; obtain ⟨c', h3, h4, h5⟩ := vI ks h1; refine ⟨c', h3.mono (fun l hl => ⟨hl.1.1, fun s' j' hm => ?_⟩), h2.trans h4, h5.trans (Cz.ED _ _ _)⟩; rcases List.mem_cons.1 hm with e2 | hm
     · cases e2; exact hl.1.2
     · exact hl.2 s' j' hm
   | _ => exact skip rfl (by simp)
def yc (m : Pm) : V → List Lb
 | .one (.ptr b _ _) => [.box b]
 | .one (.ref a j _ _) => match m with
   | .io => [.sp a j]
   | _ => []
 | .agg cs => match m with
   | .bo => cs.filterMap fun x => match x with | .ref a j _ _ => some (.sp a j) | _ => none
   | _ => []
 | _ => []
def KQ (st : St) (m : Pm × V) (av : AV) : Prop := ∃ u q r, dC st m.1 m.2 = some (av, u, q, r)
theorem EE {st : St} {own : Bool} : (cs : List CV) → {os : List OV} → {u : List (Option Lb)} → {r : List (Nat × Nat)} → ee st own cs = some (os, u, r) → ∀ (k : Nat) {a j g : Nat} , cs[k]? = some (.ref a j g .full) → os[k]? = (aQ st a j g).map fun A => bif own && A.own then .own A else .shr A.r A.xs
 | [], _, _, _, h => by intro k a j g hk; simp at hk
 | x :: cs, os, u, r, h => by
   unfold ee at h
   cases hc : eU st own x with
   | none => simp [hc] at h
   | some p =>
     obtain ⟨o, u1, r1⟩ := p
     cases hq : ee st own cs with
     | none => simp [hc, hq] at h
     | some q =>
       obtain ⟨xd, us, rs⟩ := q; simp only [hc, hq, Option.some.injEq, Prod.mk.injEq] at h; obtain ⟨rfl, rfl, _⟩ := h; intro k a j g hk
       cases k with
       | succ k => simpa using EE cs hq k (by simpa using hk)
       | zero =>
         simp only [List.getElem?_cons_zero, Option.some.injEq] at hk; subst hk; unfold eU at hc; simp only at hc
         cases hA : aQ st a j g with
         | none => simp [hA] at hc
         | some A =>
           simp only [hA] at hc
           cases hm : A.md.C3 with
           | true => simp [hm] at hc
           | false =>
           simp only [hm, cond_false, View.isFull, Bool.or_true, Bool.and_true] at hc
           cases hb : (own && A.own) <;> simp only [hb, cond_true, cond_false, Option.some.injEq, Prod.mk.injEq] at hc <;> obtain ⟨rfl, _⟩ := hc <;> simp [hb, View.app]
theorem Au {w0 wb : World} {mu : Mu} {a : Act} {w : World} {c0 : Cz} {tI : St} {i : Nat} {As : List (Option fK)} : (cs : List CV) → (j0 : Nat) → (us : List Value) → {X : Lb → Prop} → {c : Cz} → {st aP : St} → ja X w0 mu c st a w → Fw c0 tI wb c st w →
   (∀ (k : Nat) (x : CV) (v : Value), cs[k]? = some x → us[k]? = some v → ir c0 tI wb x v) →
   (∀ (k s j g : Nat) (vw : View), cs[k]? = some (.ref s j g vw) → ∃ A B u, aQ tI s j g = some A ∧ nth As (j0 + k) = some (some B) ∧ us[k]? = some u ∧ B.r.width = A.r.width ∧ B.xs.length = A.xs.length ∧ OwnAt c w (.bB i (j0 + k)) (c0.lc s j) B u) →
   zS st j0 cs As = some aP →
   ∃ c', ja (fun l => X l ∧ ∀ s j g vw, CV.ref s j g vw ∈ cs → l ≠ .sp s j) w0 mu c' aP a w ∧ Fw c0 tI wb c' aP w ∧ Pass c c' (fun l => ∀ y, l ≠ .bB i y)
 | [], j0, us, X, c, st, aP, h, fB, _, _, hv => by
   simp only [zS, Option.some.injEq] at hv; subst hv; exact ⟨c, h.mono (fun l hl => ⟨hl, by simp⟩), fB, ⟨fun _ _ _ h => h, fun _ h => h⟩⟩
 | x :: cs, j0, us, X, c, st, aP, h, fB, hr, hB, hv => by
   have skip : (∀ s j g vw, x ≠ .ref s j g vw) → zS st (j0 + 1) cs As = some aP → ∃ c', ja (fun l => X l ∧ ∀ s j g vw, CV.ref s j g vw ∈ x :: cs → l ≠ .sp s j) w0 mu c' aP a w ∧ Fw c0 tI wb c' aP w ∧ Pass c c' (fun l => ∀ y, l ≠ .bB i y) := by
     intro hx hv; obtain ⟨c', g1, g2, g3⟩ := Au (i := i) cs (j0 + 1) us.tail h fB (fun k y v hk hv => hr (k + 1) y v (by simpa using hk) (by simpa using hv)) (fun k s j g vw hk => by
       obtain ⟨A, B, u, q1, q2, q3, q4, q5, q6⟩ := hB (k + 1) s j g vw (by simpa using hk); refine ⟨A, B, u, q1, by rw [show j0 + 1 + k = j0 + (k + 1) by omega]; exact q2, by simpa using q3, q4, q5, by rw [show j0 + 1 + k = j0 + (k + 1) by omega]; exact q6⟩) hv
     refine ⟨c', g1.mono (fun l hl => ⟨hl.1, fun s j g vw hm => ?_⟩), g2, g3⟩; rcases List.mem_cons.1 hm with e | hm
     · exact absurd e.symm (hx s j g vw)
     · exact hl.2 s j g vw hm
   cases x with
   | ref s j g vw =>
     unfold zS at hv
     split at hv
     · rename_i B A1 Qc T2; obtain ⟨A, B', u, q1, q2, q3, q4, q5, q6⟩ := hB 0 s j g vw rfl; rw [Nat.add_zero] at q2 q6; rw [Qc] at q2; simp only [Option.some.injEq] at q2; subst q2; have T3 := hr 0 _ u rfl q3; obtain ⟨A0', p1, p2, p3, p4, _⟩ := fB.refs s j g A1 T3.2.1 T2; rw [q1] at p1; cases p1; have Yy : OwnAt c w (.bB i j0) (c.lc s j) B u := by rw [p4]; exact q6
       obtain ⟨g1, g2⟩ := h.io T2 (q4.trans p2.symm) (q5.trans p3.symm) Yy; have Co : ∀ b l, l ≠ .bB i j0 → c.own b = some l → (c.dD (qt i j0 s j) c.bx c.lc).own b = some l := by
         intro b l hl hb; show (c.own b).map _ = _; rw [hb]; simp only [Option.map_some, Option.some.injEq]
         cases l with
         | bB x y => simp only [qt]; rw [if_neg]; rintro ⟨rfl, rfl⟩; exact hl rfl
         | _ => rfl
       obtain ⟨c', k1, k2, k3⟩ := Au (i := i) cs (j0 + 1) us.tail g1 (fB.trans g2) (fun k y v hk hv => hr (k + 1) y v (by simpa using hk) (by simpa using hv)) (fun k s' j' g' Yz hk => by
         obtain ⟨A, B, u, q1, q2, q3, q4, q5, q6⟩ := hB (k + 1) s' j' g' Yz (by simpa using hk); refine ⟨A, B, u, q1, by rw [show j0 + 1 + k = j0 + (k + 1) by omega]; exact q2, by simpa using q3, q4, q5, ?_⟩; rw [show j0 + 1 + k = j0 + (k + 1) by omega]; exact q6.pass (fun b hb => Co b _ (by simp) hb) (.inl fun b hb => Cz.j8.2 hb)) hv
       refine ⟨c', k1.mono (fun l hl => ⟨hl.1.1, fun s' j' g' Yz hm => ?_⟩), k2, ⟨fun b l hl hb => k3.bB b l hl (Co b l (hl j0) hb), fun b hb => k3.ok b (Cz.j8.2 hb)⟩⟩; rcases List.mem_cons.1 hm with e | hm
       · cases e; exact hl.1.2
       · exact hl.2 s' j' g' Yz hm
     · cases hv
   | _ => exact skip (by simp) hv
theorem Av {w0 wb : World} {mu : Mu} {a : Act} {w : World} {c0 : Cz} {tI : St} {lc : Nat → Nat → Loc} : (ms : List (Pm × V)) → (i : Nat) → (cN : List AV) → (xs : List Value) → (es : List XV) → {X : Lb → Prop} → {c : Cz} → {st aP : St} → ja X w0 mu c st a w → Fw c0 tI wb c st w →
   (∀ (k : Nat) (m : Pm × V) (x : Value), ms[k]? = some m → xs[k]? = some x → dV c0 tI wb m.2 x) → (∀ (k : Nat) (m : Pm × V) (av : AV), ms[k]? = some m → cN[k]? = some av → KQ tI m av) → ms.length = cN.length → ms.length = xs.length → (∀ (k : Nat) (m : Pm × V), ms[k]? = some m → lc (i + k) = yM c0 m.2) →
   gd c w lc i cN xs es → rk st ms es = some aP →
   ∃ c', ja (fun l => X l ∧ ∀ m ∈ ms, l ∉ yc m.1 m.2) w0 mu c' aP a w ∧ Fw c0 tI wb c' aP w ∧ Pass c c' (fun l => (∃ j, l = .gn j) ∨ l.real = true)
 | [], i, cN, xs, es, X, c, st, aP, h, fB, _, _, _, _, _, hx, hv => by
   cases es with
   | nil =>
     simp only [rk, Option.some.injEq] at hv; subst hv; exact ⟨c, h.mono (fun l hl => ⟨hl, by simp⟩), fB, ⟨fun _ _ _ h => h, fun _ h => h⟩⟩
   | cons _ _ => simp [rk] at hv
 | (m, v) :: ms, i, [], xs, es, X, c, st, aP, h, fB, hr, he, hn, Xz, fN, hx, hv => by simp at hn
 | (m, v) :: ms, i, av :: cN, [], es, X, c, st, aP, h, fB, hr, he, hn, Xz, fN, hx, hv => by simp at Xz
 | (m, v) :: ms, i, av :: cN, x :: xs, es, X, c, st, aP, h, fB, hr, he, hn, Xz, fN, hx, hv => by
   have T3 := hr 0 (m, v) x rfl rfl; obtain ⟨u, q, r, pK⟩ := he 0 (m, v) av rfl rfl; have Qy := fN 0 (m, v) rfl; simp only [Nat.add_zero] at Qy; have Ya : ∀ (k : Nat) (m : Pm × V) (x : Value), ms[k]? = some m → xs[k]? = some x → dV c0 tI wb m.2 x := fun k m' x' h1 h2 => hr (k + 1) m' x' (by simpa using h1) (by simpa using h2)
   have P9 : ∀ (k : Nat) (m : Pm × V) (av : AV), ms[k]? = some m → cN[k]? = some av → KQ tI m av := fun k m' x' h1 h2 => he (k + 1) m' x' (by simpa using h1) (by simpa using h2)
   have Ql : ∀ (k : Nat) (m : Pm × V), ms[k]? = some m → lc (i + 1 + k) = yM c0 m.2 := fun k m' h1 => by
     have := fN (k + 1) m' (by simpa using h1)
     rwa [show i + (k + 1) = i + 1 + k by omega] at this
   have IV : ms.length = cN.length := by simpa using hn
   have YA : ms.length = xs.length := by simpa using Xz
   unfold rk at hv
   cases hb : pY st m v es with
   | none => simp [hb] at hv
   | some p =>
     obtain ⟨xY, YB⟩ := p; simp only [hb] at hv; have go : ∀ {X1 : Lb → Prop} {c1 : Cz}, ja X1 w0 mu c1 xY a w → Fw c0 tI wb c1 xY w → (∀ l, X1 l → X l ∧ l ∉ yc m v) → gd c1 w lc (i + 1) cN xs YB → Pass c c1 (fun l => (∃ j, l = .gn j) ∨ l.real = true) →
         ∃ c', ja (fun l => X l ∧ ∀ m' ∈ (m, v) :: ms, l ∉ yc m'.1 m'.2) w0 mu c' aP a w ∧ Fw c0 tI wb c' aP w ∧ Pass c c' (fun l => (∃ j, l = .gn j) ∨ l.real = true) := by
       intro X1 c1 g1 g2 g3 g4 g5; obtain ⟨c', k1, k2, k3⟩ := Av ms (i + 1) cN xs YB g1 g2 Ya P9 IV YA Ql g4 hv; refine ⟨c', k1.mono (fun l hl => ⟨(g3 l hl.1).1, fun m' Ac => ?_⟩), k2, ⟨fun b l hl hb => k3.bB b l hl (g5.bB b l hl hb), fun b hb => k3.ok b (g5.ok b hb)⟩⟩; rcases List.mem_cons.1 Ac with rfl | Ac
       · exact (g3 l hl.1).2
       · exact hl.2 m' Ac
     have jx : yc m v = [] → xY = st → YB = es → (∃ ag os, av = .val ag os) → ∃ c', ja (fun l => X l ∧ ∀ m' ∈ (m, v) :: ms, l ∉ yc m'.1 m'.2) w0 mu c' aP a w ∧ Fw c0 tI wb c' aP w ∧ Pass c c' (fun l => (∃ j, l = .gn j) ∨ l.real = true) := by
       rintro e1 rfl rfl ⟨ag, os, rfl⟩
       exact go h fB (fun l hl => ⟨hl, by rw [e1]; simp⟩) hx ⟨fun _ _ _ h => h, fun _ h => h⟩
     cases v with
     | kV us => simp [dC] at pK
     | agg cs =>
       have oX : ∀ u q r, (match ee tI m.lL cs with | some (os, u, r) => some (AV.val true os, bt u, bt u, r) | none => none) = some (av, u, q, r) → ∃ ag os, av = .val ag os := by
         intro u q r pK
         cases hq : ee tI m.lL cs with
         | none => simp [hq] at pK
         | some p =>
           obtain ⟨os, us, rs⟩ := p; simp only [hq, Option.some.injEq, Prod.mk.injEq] at pK; exact ⟨_, _, pK.1.symm⟩
       unfold dC at pK
       cases m with
       | shr =>
         simp only [pY, Option.some.injEq, Prod.mk.injEq] at hb; exact jx rfl hb.1.symm hb.2.symm (oX _ _ _ pK)
       | own =>
         simp only [pY, Option.some.injEq, Prod.mk.injEq] at hb; exact jx rfl hb.1.symm hb.2.symm (oX _ _ _ pK)
       | pick _ =>
         simp only [pY, Option.some.injEq, Prod.mk.injEq] at hb; exact jx rfl hb.1.symm hb.2.symm (oX _ _ _ pK)
       | io =>
         simp only [pY, Option.some.injEq, Prod.mk.injEq] at hb; exact jx rfl hb.1.symm hb.2.symm (oX _ _ _ pK)
       | bo =>
         simp only at pK
         cases hq : ee tI true cs with
         | none => simp [hq] at pK
         | some p =>
           obtain ⟨os, us, rs⟩ := p; simp only [hq] at pK; obtain ⟨oU, uY⟩ := aD pK; simp only [Option.some.injEq, Prod.mk.injEq] at uY; obtain ⟨rfl, _⟩ := uY; obtain ⟨As, l, rfl, ⟨us', rfl, hX⟩, ez⟩ := hx; unfold pY at hb; obtain ⟨fG, Gv, e2⟩ := Option.map_eq_some_iff.1 hb; injection e2 with e2 e3; subst e2 e3; obtain ⟨vs0, e0, hl0⟩ := T3; injection e0 with e0; subst e0; obtain ⟨c1, g1, g2, g3⟩ := Au (i := i) (As := As) cs 0 us'.toList h fB (fun k x v hk hv => hl0.2 k x v hk (by simpa using hv)) (fun k s j g vw hk => by
             have uW := List.mem_of_getElem? hk; have BH := List.all_eq_true.1 oU _ uW; unfold Km at BH; rw [Bool.and_eq_true] at BH
             cases hA : aQ tI s j g with
             | none => rw [hA] at BH; cases BH.2
             | some A =>
               have KP : vw = .full := by
                 cases vw with
                 | full => rfl
                 | «from» _ => cases BH.1
                 | sub _ _ => cases BH.1
               subst KP; rw [hA] at BH; have ho : os[k]? = some (.own A) := by
                 have := EE cs hq k hk; rw [hA] at this; have Gr : A.own = true := BH.2; simpa [Gr] using this
               obtain ⟨B, u, k1, k2, k3, k4, k5⟩ := hX k A ho; refine ⟨A, B, u, rfl, by rw [Nat.zero_add]; exact k1, k2, k3, k4, ?_⟩; have : lc i k = c0.lc s j := by
                 rw [Qy]; show Gu c0 cs[k]? = _; rw [hk]; rfl
               rw [← this, Nat.zero_add]; exact k5) Gv
           refine go g1 g2 (fun l hl => ⟨hl.1, fun hm => ?_⟩) ?_ ⟨fun b l hl => g3.bB b l (hl.elim (by rintro ⟨j, rfl⟩; simp) (by intro h; cases l <;> simp_all [Lb.real])), g3.ok⟩
           · obtain ⟨x, Gk, BO⟩ := List.mem_filterMap.1 hm
             cases x with
             | ref s j g vw => simp only [Option.some.injEq] at BO; exact hl.2 s j g vw Gk BO.symm
             | _ => cases BO
           · exact gd.pass cN (i + 1) (fun b k hk hb => g3.bB b _ (by simp) hb) (fun b k j hk hb => g3.bB b _ (by intro y; simp; omega) hb) xs _ (.inl g3.ok) ez
     | one cx =>
       cases cx with
       | ptr b g off =>
         unfold pY at hb
         cases es with
         | nil => simp at hb
         | cons e YC => cases e with
           | io _ => simp at hb
           | bo _ => simp at hb
           | box os =>
             simp only at hb
             split at hb
             · rename_i s0 J4 gm NO; simp only [Option.some.injEq, Prod.mk.injEq] at hb; obtain ⟨rfl, rfl⟩ := hb; have EF : ∃ os0, av = .box os0 := by
                 unfold dC at pK; simp only at pK
                 cases hq : cX tI b g with
                 | none => simp [hq] at pK
                 | some cs =>
                   simp only [hq] at pK
                   cases Gl : ee tI true cs with
                   | none => simp [Gl] at pK
                   | some p =>
                     obtain ⟨xd, us, rs⟩ := p; simp only [Gl] at pK; obtain ⟨_, uY⟩ := aD pK; simp only [Option.some.injEq, Prod.mk.injEq] at uY; exact ⟨_, uY.1.symm⟩
               obtain ⟨os0, rfl⟩ := EF; obtain ⟨os1, l, e1, hB, ez⟩ := hx
               cases e1
               have hp := (fB.kZ (v := x) T3); have e2 := hp.2.2 J4 NO; have e3 : x = .pointer (some ⟨c.bx b, 0, none⟩) := by
                 obtain ⟨lN, vs, ty, q1, _⟩ := hB; rw [e2] at q1 ⊢; injection q1 with q1; injection q1 with q1; injection q1 with q1 q2; rw [q2]
               obtain ⟨c1, g1, g2, g3⟩ := h.boxed gm NO e3 hB; refine go g1 (fB.trans g2) (fun l hl => ⟨hl.1, by simp [yc]; exact hl.2⟩) ?_ ⟨fun b l hl => g3.bB b l (hl.elim (by rintro ⟨j, rfl⟩; simp) (by intro h; cases l <;> simp_all [Lb.real])), g3.ok⟩; exact gd.pass cN (i + 1) (fun b k hk hb => g3.bB b _ (by constructor <;> simp; omega) hb) (fun b k j hk hb => g3.bB b _ (by constructor <;> simp; omega) hb) xs YC (.inl g3.ok) ez
             · cases hb
       | ref s j g vw =>
         have oX : m ≠ .io → ∃ ag os, av = .val ag os := by
           intro hm; unfold dC at pK
           cases m with
           | io => exact absurd rfl hm
           | shr =>
             cases hq : ee tI Pm.shr.lL [.ref s j g vw] with
             | none => simp [hq] at pK
             | some p => obtain ⟨os, us, rs⟩ := p; simp only [hq, Option.some.injEq, Prod.mk.injEq] at pK; exact ⟨_, _, pK.1.symm⟩
           | bo =>
             cases hq : ee tI Pm.bo.lL [.ref s j g vw] with
             | none => simp [hq] at pK
             | some p => obtain ⟨os, us, rs⟩ := p; simp only [hq, Option.some.injEq, Prod.mk.injEq] at pK; exact ⟨_, _, pK.1.symm⟩
           | own =>
             cases hq : ee tI Pm.own.lL [.ref s j g vw] with
             | none => simp [hq] at pK
             | some p => obtain ⟨os, us, rs⟩ := p; simp only [hq, Option.some.injEq, Prod.mk.injEq] at pK; exact ⟨_, _, pK.1.symm⟩
           | pick pl =>
             cases hq : ee tI (Pm.pick pl).lL [.ref s j g vw] with
             | none => simp [hq] at pK
             | some p => obtain ⟨os, us, rs⟩ := p; simp only [hq, Option.some.injEq, Prod.mk.injEq] at pK; exact ⟨_, _, pK.1.symm⟩
         cases m with
         | shr =>
           simp only [pY, Option.some.injEq, Prod.mk.injEq] at hb; exact jx rfl hb.1.symm hb.2.symm (oX (by simp))
         | bo =>
           simp only [pY, Option.some.injEq, Prod.mk.injEq] at hb; exact jx rfl hb.1.symm hb.2.symm (oX (by simp))
         | own =>
           simp only [pY, Option.some.injEq, Prod.mk.injEq] at hb; exact jx rfl hb.1.symm hb.2.symm (oX (by simp))
         | pick _ =>
           simp only [pY, Option.some.injEq, Prod.mk.injEq] at hb; exact jx rfl hb.1.symm hb.2.symm (oX (by simp))
         | io =>
           unfold pY at hb; simp only at hb
           split at hb
           · rename_i B YC A2 Gr; simp only [Option.some.injEq, Prod.mk.injEq] at hb; obtain ⟨rfl, rfl⟩ := hb; have EF : ∃ A0, av = .io A0 ∧ aQ tI s j g = some A0 := by
               unfold dC at pK
               cases vw with
               | full =>
                 cases hA : aQ tI s j g with
                 | none => simp [hA] at pK
                 | some A =>
                   simp only [hA] at pK; obtain ⟨_, uY⟩ := aD pK; simp only [Option.some.injEq, Prod.mk.injEq] at uY; exact ⟨A, uY.1.symm, rfl⟩
               | «from» _ => simp at pK
               | sub _ _ => simp at pK
             obtain ⟨A0, rfl, Gi⟩ := EF; obtain ⟨B', l, e1, hw, hlen, hO, ez⟩ := hx
             cases e1
             obtain ⟨A0', q1, q2, q3, q4, _⟩ := fB.refs s j g A2 T3.2.1 Gr; rw [Gi] at q1; cases q1; have Yy : OwnAt c w (.bB i 0) (c.lc s j) B x := by
               rw [q4]; have : lc i 0 = c0.lc s j := by rw [Qy]; rfl
               rw [← this]; exact hO
             obtain ⟨g1, g2⟩ := h.io Gr (hw.trans q2.symm) (hlen.trans q3.symm) Yy; have Co : ∀ b l, (∀ y, l ≠ .bB i y) → c.own b = some l → (c.dD (qt i 0 s j) c.bx c.lc).own b = some l := by
               intro b l hl hb; show (c.own b).map _ = _; rw [hb]; simp only [Option.map_some, Option.some.injEq]
               cases l with
               | bB x y => simp only [qt]; rw [if_neg]; rintro ⟨rfl, _⟩; exact hl y rfl
               | _ => rfl
             refine go g1 (fB.trans g2) (fun l hl => ⟨hl.1, by simp [yc]; exact hl.2⟩) ?_ ⟨fun b l hl => Co b l (hl.elim (by rintro ⟨j, rfl⟩; simp) (by intro h; cases l <;> simp_all [Lb.real])), fun b hb => Cz.j8.2 hb⟩; exact gd.pass cN (i + 1) (fun b k hk hb => Co b _ (by simp) hb) (fun b k j hk hb => Co b _ (by intro y; simp; omega) hb) xs YC (.inl fun b hb => Cz.j8.2 hb) ez
           · cases hb
       | _ =>
         simp only [pY, Option.some.injEq, Prod.mk.injEq] at hb; refine jx rfl hb.1.symm hb.2.symm ?_; unfold dC at pK; simp only at pK
         split at pK
         · simp only [Option.some.injEq, Prod.mk.injEq] at pK; exact ⟨_, _, pK.1.symm⟩
         · cases pK
end Go.TM
namespace Go.TM
open Go Go.RowKit
def xi (d : Nat) : Lb → Lb
 | .gn j => .sp d j
 | l => l
theorem vo (d : Nat) : yN (xi d) := ⟨fun l h => by cases l <;> simp [xi, Lb.real] at h ⊢⟩
theorem sP : (os ps : List OV) → aV (os ++ ps) = aV os ++ aV ps
 | [], ps => rfl
 | o :: os, ps => by simp [aV, sP os ps]
theorem j9 : (os : List OV) → (aV os).length = os.length
 | [] => rfl
 | o :: os => by simp [aV, j9 os]
theorem KR (d g j : Nat) (o : OV) : ∃ x, aU d g j [o] = [x] := by
 cases o <;> exact ⟨_, rfl⟩
theorem jH.vals {c : Cz} {w : World} : (rs : List RV) → (j : Nat) → (vs : List Value) → jH c w j rs vs →
   ∃ lcs : Nat → Loc, (∀ k A, nth (aV (rs.flatMap RV.tc)) k = some (some A) → ∃ v, OwnAt c w (.gn (j + k)) (lcs (j + k)) A v) ∧ rs.length = vs.length ∧ (∀ d g, (iS d g j rs).length = rs.length) ∧
     ∀ (c2 : Cz) (fG : St) (d g : Nat), (∀ b, c.ok b → c2.ok b) → (∀ k, k < (rs.flatMap RV.tc).length → c2.lc d (j + k) = lcs (j + k)) → (∀ k A, k < (rs.flatMap RV.tc).length → aQ fG d (j + k) g = some A → nth (aV (rs.flatMap RV.tc)) k = some (some A)) → g ≤ cD fG d →
       ∀ (k : Nat) (x : V) (v : Value), (iS d g j rs)[k]? = some x → vs[k]? = some v → wQ c2 fG w x v
 | [], j, vs, h => by
   subst h; exact ⟨fun _ => .nil, fun k A hA => by simp [aV] at hA, rfl, fun _ _ => rfl, fun _ _ _ _ _ _ _ _ k x v hx => by simp [iS] at hx⟩
 | r :: rs, j, vs, h => by
   obtain ⟨v, l, us, rfl, hL, hR, hV⟩ : ∃ (v : Value) (l us : List Value), vs = v :: l ∧ ba c w .gn j r.tc us ∧ jH c w (j + r.tc.length) rs l ∧
       (∀ (c2 : Cz) (fG : St) (d g : Nat), ek c2 fG w (aU d g j r.tc) us → wQ c2 fG w (Kg d g j r) v) := by
     cases r with
     | one o =>
       obtain ⟨v, l, h1, h2, h3⟩ := h; refine ⟨v, l, [v], h1, h2, h3, fun c2 fG d g hl => ?_⟩; unfold Kg; obtain ⟨x, hx⟩ := KR d g j o; show wQ c2 fG w (match aU d g j [o] with | [c] => .one c | _ => .one .bad) v; have hl : ek c2 fG w (aU d g j [o]) [v] := hl; rw [hx] at hl ⊢; exact hl.2 0 x v rfl rfl
     | agg os =>
       obtain ⟨us, l, h1, h2, h3⟩ := h; exact ⟨.agg us, l, us.toList, h1, h2, h3, fun c2 fG d g hl => ⟨us, rfl, hl⟩⟩
     | ptr os =>
       obtain ⟨v, l, h1, ⟨lN, us, ty, _, _, _, g4⟩, h3⟩ := h; exact ⟨v, l, .slice none 0 0 :: us.toList, h1, ⟨_, rfl, g4⟩, h3, fun _ _ _ _ _ => trivial⟩
   obtain ⟨l1, a1, a2⟩ := ba.cells r.tc j us hL; obtain ⟨l2, b1, b2, b3, b4⟩ := jH.vals rs (j + r.tc.length) l hR; have OZ : aV ((r :: rs).flatMap RV.tc) = aV r.tc ++ aV (rs.flatMap RV.tc) := by
     rw [List.flatMap_cons, sP]
   refine ⟨fun k => if k < j + r.tc.length then l1 k else l2 k, fun k A hA => ?_, by simp [b2], fun d g => by simp [iS, b3], fun c2 fG d g ff fN x6 hg k x v' hx lH => ?_⟩
   · rw [OZ, kn, j9] at hA
     by_cases e : k < r.tc.length
     · rw [if_pos e] at hA; have := a1 k A hA; show ∃ v, OwnAt c w _ (if j + k < _ then _ else _) A v; rw [if_pos (by omega)]; exact this
     · rw [if_neg e] at hA; have := b1 _ A hA; rw [show j + r.tc.length + (k - r.tc.length) = j + k by omega] at this; show ∃ v, OwnAt c w _ (if j + k < _ then _ else _) A v; rw [if_neg (by omega)]; exact this
   · rw [OZ] at x6; rw [List.flatMap_cons, List.length_append] at fN x6
     cases k with
     | zero =>
       simp only [iS, List.getElem?_cons_zero, Option.some.injEq] at hx lH; subst hx lH; refine hV c2 fG d g (a2 c2 fG d g ff (fun k hk => ?_) (fun k A hk hA => ?_) hg)
       · have : c2.lc d (j + k) = if j + k < j + r.tc.length then l1 (j + k) else l2 (j + k) := fN k (by omega)
         rwa [if_pos (by omega)] at this
       · have := x6 k A (by omega) hA
         rwa [kn, j9, if_pos hk] at this
     | succ k =>
       refine b4 c2 fG d g ff (fun k hk => ?_) (fun k A hk hA => ?_) hg k x v' (by simpa [iS] using hx) (by simpa using lH)
       · have : c2.lc d (j + (r.tc.length + k)) = if j + (r.tc.length + k) < j + r.tc.length then l1 (j + (r.tc.length + k)) else l2 (j + (r.tc.length + k)) := fN (r.tc.length + k) (by omega)
         rw [if_neg (by omega)] at this; rw [Nat.add_assoc]; exact this
       · rw [Nat.add_assoc] at hA; have := x6 (r.tc.length + k) A (by omega) hA
         rwa [kn, j9, if_neg (by omega), Nat.add_sub_cancel_left] at this
def rF (d : Nat) : Lb → Lb
 | .gn 0 => .box d
 | .gn (j + 1) => .sp d (j + 1)
 | l => l
theorem vp (d : Nat) : yN (rF d) := ⟨fun l h => by
 cases l with
 | gn j => cases j <;> simp [rF, Lb.real] at h ⊢
 | _ => simp [rF, Lb.real] at h ⊢⟩
theorem ja.NP {X : Lb → Prop} {w0 : World} {mu : Mu} {c : Cz} {st : St} {a : Act} {w : World} (h : ja X w0 mu c st a w) {d : Nat} {s0 : Sl} {os : List OV} {v : Value} (gm : nth st d = some s0)
   (hv : ∃ lN us ty, v = .pointer (some ⟨lN, 0, none⟩) ∧ c.own lN = some (.gn 0) ∧ w.heap[lN]? = some (.cells us ty (0, 0)) ∧ ba c w .gn 1 os us.toList) (hd : d < a.tmps.size) :
   ∃ c', ja X w0 mu c' (kP (fun s => { s with v := .one (.ptr d (s.bg + 1) 0), box := some (aU d (s.ag + 1) 1 os), bg := s.bg + 1, aI := none :: aV os, ag := s.ag + 1 }) st d) (a.put (some d) v) w ∧
     Fw c st w c' (kP (fun s => { s with v := .one (.ptr d (s.bg + 1) 0), box := some (aU d (s.ag + 1) 1 os), bg := s.bg + 1, aI := none :: aV os, ag := s.ag + 1 }) st d) w ∧ ∀ b l, l.real = true → c.own b = some l → c'.own b = some l := by
 obtain ⟨lN, us, ty, rfl, eH, KS, hL⟩ := hv; obtain ⟨lcs, g1, g2⟩ := ba.cells os 1 _ hL
 let c' := c.dD (rF d) (fun s => if s = d then lN else c.bx s) (fun s j => if s = d then lcs j else c.lc s j)
 let aP := kP (fun s => { s with v := .one (.ptr d (s.bg + 1) 0), box := some (aU d (s.ag + 1) 1 os), bg := s.bg + 1, aI := none :: aV os, ag := s.ag + 1 }) st d
 have hn : ∀ s, nth aP s = if s = d then some { s0 with v := .one (.ptr d (s0.bg + 1) 0), box := some (aU d (s0.ag + 1) 1 os), bg := s0.bg + 1, aI := none :: aV os, ag := s0.ag + 1 } else nth st s := by
   intro s; show nth (kP _ st d) s = _; rw [cL]
   by_cases e : s = d
   · subst e; rw [if_pos rfl, if_pos rfl, gm]; rfl
   · rw [if_neg e, if_neg e]
 have x8 : cD aP d = s0.ag + 1 := by unfold cD; rw [hn]; simp
 have Ey : cD st d = s0.ag := by unfold cD; rw [gm]
 have O0 : fI aP d = s0.bg + 1 := by unfold fI; rw [hn]; simp
 have Qz : fI st d = s0.bg := by unfold fI; rw [gm]
 have ht := vp d; have fB : Fw c st w c' aP w := {
   stays := lZ c w _ _ _
   refs := fun a' j' g' A' hg dL => by
     obtain ⟨sl, k1, k2, k3⟩ := a7 dL; rw [hn] at k1
     by_cases e : a' = d
     · rw [if_pos e] at k1
       cases k1
       subst e; simp only at k2; omega
     · rw [if_neg e] at k1; exact ⟨A', mj k1 k2 k3, rfl, rfl, by show (if a' = d then _ else _) = _; rw [if_neg e], fun _ => ⟨rfl, fun _ _ _ _ => rfl⟩⟩
   zF := fun b' g' lF hg Gg => by
     obtain ⟨sl, k1, k2, k3⟩ := fM Gg; rw [hn] at k1
     by_cases e : b' = d
     · rw [if_pos e] at k1
       cases k1
       subst e; simp only at k2; omega
     · rw [if_neg e] at k1; exact ⟨⟨lF, by unfold cX; rw [k1]; simp [k2, k3]⟩, by show (if b' = d then _ else _) = _; rw [if_neg e]⟩
   gA := fun a' => by
     by_cases e : a' = d
     · subst e; rw [x8, Ey]; omega
     · unfold cD; rw [hn, if_neg e]; exact Nat.le_refl _
   gB := fun a' => by
     by_cases e : a' = d
     · subst e; rw [O0, Qz]; omega
     · unfold fI; rw [hn, if_neg e]; exact Nat.le_refl _
   gE := fun a' => by
     by_cases e : a' = d
     · subst e; unfold kU; rw [hn, if_pos rfl, gm]; exact Nat.le_refl _
     · unfold kU; rw [hn, if_neg e]; exact Nat.le_refl _ }
 have Ez : ∀ k A, aQ aP d (1 + k) (s0.ag + 1) = some A → nth (aV os) k = some (some A) := by
   intro k A hA; obtain ⟨sl, k1, k2, k3⟩ := a7 hA; rw [hn, if_pos rfl] at k1
   cases k1
   rw [show 1 + k = k + 1 by omega] at k3; exact k3
 have qL : ∀ t, dV c' aP w (bI aP t) ((a.put (some d) (.pointer (some ⟨lN, 0, none⟩))).eval (.tmp t)) := by
   intro t; rw [eval_put]
   by_cases e : t = d
   · subst e; rw [if_pos ⟨rfl, hd⟩]; have : bI aP t = .one (.ptr t (s0.bg + 1) 0) := by unfold bI; rw [hn, if_pos rfl]
     rw [this]; refine ⟨rfl, by rw [O0]; exact Nat.le_refl _, fun cs _ => ?_⟩; show _ = Value.pointer (some ⟨(if t = t then lN else c.bx t), 0, none⟩); rw [if_pos rfl]
   · rw [if_neg (by rintro ⟨e2, _⟩; exact e (Option.some.inj e2).symm)]; have : bI aP t = bI st t := by unfold bI; rw [hn, if_neg e]
     rw [this]; exact fB.kZ (h.eO t)
 refine ⟨c', ⟨qL, fun s sl cs hX hs hb => ?_, fun s j sl A hX hs hA => ?_, fun b l hb => ?_, fun b hb h1 => h.free b hb (by unfold Cz.ok at *; simpa [c', Cz.dD] using h1), h.kept, h.old, by simpa [Act.put] using h.plain, fun p hp => fB.dK (h.dK p hp)⟩, fB, fun b l hl hb => ?_⟩
 case refine_4 =>
   show (c.own b).map (rF d) = _; rw [hb]; simp [(vp d).other l (.inr hl)]
 · rw [hn] at hs
   by_cases e : s = d
   · subst e; rw [if_pos rfl] at hs
     cases hs
     simp only [Option.some.injEq] at hb; subst hb; refine ⟨?_, us, ty, by show w.heap[if s = s then lN else c.bx s]? = _; rw [if_pos rfl]; exact KS, ?_⟩
     · show (c.own (if s = s then lN else c.bx s)).map (rF s) = some (.box s); rw [if_pos rfl, eH]; rfl
     · exact g2 c' aP s (s0.ag + 1) (fun b hb => Cz.j8.2 hb) (fun k _ => by show (if s = s then _ else _) = _; rw [if_pos rfl]) (fun k A _ hA => Ez k A hA) (by rw [x8]; exact Nat.le_refl _)
   · rw [if_neg e] at hs; exact (h.boxes s sl cs hX hs hb).dD ht fB (by show (if s = d then _ else _) = _; rw [if_neg e])
 · rw [hn] at hs
   by_cases e : s = d
   · subst e; rw [if_pos rfl] at hs
     cases hs
     cases j with
     | zero => simp [nth] at hA
     | succ j =>
       obtain ⟨v', lH⟩ := g1 j A hA; rw [show 1 + j = j + 1 by omega] at lH; exact lH.arr (by simp) (by simp [rF])
   · rw [if_neg e] at hs; exact (h.aI s j sl A hX hs hA).dD ht (by simp [e])
 · simp only [c', Cz.dD, Option.map_eq_some_iff] at hb; obtain ⟨k, hk, e⟩ := hb; obtain ⟨h1, h2⟩ := h.owned b k hk; refine ⟨h1, h2.imp (fun e2 => ?_) id⟩; subst e2; rw [← e]; rfl
theorem Dm {st : St} {d : Nat} {outs : List RV} (h : ∀ os, outs ≠ [.ptr os]) : tf st (some d) outs = match nth st d with
   | some s => some (kP (fun sl => { sl with v := (match iS d (s.ag + 1) 0 outs with | [v] => v | vs => .kV vs), aI := aV (outs.flatMap RV.tc), ag := s.ag + 1 }) st d)
   | none => none := by
 unfold tf; simp only
 cases nth st d with
 | none => rfl
 | some s =>
   cases outs with
   | nil => rfl
   | cons r l => cases l with
     | cons _ _ => cases r <;> rfl
     | nil => cases r with
       | one o => rfl
       | agg os => rfl
       | ptr os => exact absurd rfl (h os)
theorem ja.laid {X : Lb → Prop} {w0 : World} {mu : Mu} {c : Cz} {st : St} {a : Act} {w : World} (h : ja X w0 mu c st a w) {d : Option Nat} {outs : List RV} {v : Value} (hv : oT c w outs v) {aP : St} (hl : tf st d outs = some aP) (hd : ∀ k, d = some k → k < a.tmps.size) :
   ∃ c', ja X w0 mu c' aP (a.put d v) w ∧ Fw c st w c' aP w ∧ ∀ b l, l.real = true → c.own b = some l → c'.own b = some l := by
 cases d with
 | none =>
   cases outs with
   | nil =>
     simp only [tf, Option.some.injEq] at hl; subst hl; exact ⟨c, h, Fw.refl c st w, fun _ _ _ h => h⟩
   | cons _ _ => simp [tf] at hl
 | some d =>
   by_cases hp : ∃ os, outs = [.ptr os]
   · obtain ⟨os, rfl⟩ := hp; unfold tf at hl; simp only at hl
     cases gm : nth st d with
     | none => simp [gm] at hl
     | some s0 =>
       simp only [gm, Option.some.injEq] at hl; subst hl; refine h.NP gm ?_ (hd d rfl); rcases hv with ⟨r, h1, h2⟩ | ⟨h1, _⟩
       · simp only [List.cons.injEq, and_true] at h1; subst h1; obtain ⟨v', l, e1, h3, _⟩ := h2; simp only [List.cons.injEq] at e1; rw [e1.1]; exact h3
       · exact absurd rfl h1
   rw [Dm (fun os e => hp ⟨os, e⟩)] at hl
   cases gm : nth st d with
   | none => simp [gm] at hl
   | some s0 =>
     simp only [gm, Option.some.injEq] at hl; obtain ⟨vs, hR, hVV⟩ : ∃ vs, jH c w 0 outs vs ∧ ∀ (c2 : Cz) (fG : St) (g : Nat), (iS d g 0 outs).length = vs.length → (∀ (k : Nat) (x : V) (u : Value), (iS d g 0 outs)[k]? = some x → vs[k]? = some u → wQ c2 fG w x u) →
         dV c2 fG w (match iS d g 0 outs with | [v] => v | vs => .kV vs) v := by
       rcases hv with ⟨r, rfl, h2⟩ | ⟨h1, vs, rfl, h2⟩
       · refine ⟨[v], h2, fun c2 fG g hlen tJ => ?_⟩; exact Es (tJ 0 _ v rfl rfl)
       · refine ⟨vs.toList, h2, fun c2 fG g hlen tJ => ?_⟩; have QA : dV c2 fG w (.kV (iS d g 0 outs)) (.tuple vs) := ⟨vs, rfl, by simpa using hlen, fun i x y hx hy => tJ i x y hx (by simpa using hy)⟩
         split
         · rename_i x hx; obtain ⟨_, _, _, b3, _⟩ := jH.vals outs 0 vs.toList h2; have := b3 d g; rw [hx] at this; exact absurd this.symm h1
         · exact QA
     obtain ⟨lcs, g1, g2, g3, g4⟩ := jH.vals outs 0 vs hR
     let c' := c.dD (xi d) c.bx (fun s j => if s = d then lcs j else c.lc s j)
     let V0 := (match iS d (s0.ag + 1) 0 outs with | [v] => v | vs => .kV vs)
     have hn : ∀ s, nth aP s = if s = d then some { s0 with v := V0, aI := aV (outs.flatMap RV.tc), ag := s0.ag + 1 } else nth st s := by
       intro s; rw [← hl, cL]
       by_cases e : s = d
       · subst e; rw [if_pos rfl, if_pos rfl, gm]; rfl
       · rw [if_neg e, if_neg e]
     have x8 : cD aP d = s0.ag + 1 := by unfold cD; rw [hn]; simp
     have Ey : cD st d = s0.ag := by unfold cD; rw [gm]
     have ht := vo d; have fB : Fw c st w c' aP w := {
       stays := lZ c w _ _ _
       refs := fun a' j' g' A' hg dL => by
         obtain ⟨sl, k1, k2, k3⟩ := a7 dL; rw [hn] at k1
         by_cases e : a' = d
         · rw [if_pos e] at k1
           cases k1
           subst e; simp only at k2; omega
         · rw [if_neg e] at k1; exact ⟨A', mj k1 k2 k3, rfl, rfl, by show (if a' = d then _ else _) = _; rw [if_neg e], fun _ => ⟨rfl, fun _ _ _ _ => rfl⟩⟩
       zF := fun b' g' lF hg Gg => by
         obtain ⟨sl, k1, k2, k3⟩ := fM Gg; rw [hn] at k1
         by_cases e : b' = d
         · rw [if_pos e] at k1
           cases k1
           subst e; exact ⟨⟨lF, by unfold cX; rw [gm]; simp at k2 k3; simp [k2, k3]⟩, rfl⟩
         · rw [if_neg e] at k1; exact ⟨⟨lF, by unfold cX; rw [k1]; simp [k2, k3]⟩, rfl⟩
       gA := fun a' => by
         by_cases e : a' = d
         · subst e; rw [x8, Ey]; omega
         · unfold cD; rw [hn, if_neg e]; exact Nat.le_refl _
       gB := fun a' => by
         by_cases e : a' = d
         · subst e; unfold fI; rw [hn, if_pos rfl, gm]; exact Nat.le_refl _
         · unfold fI; rw [hn, if_neg e]; exact Nat.le_refl _
       gE := fun a' => by
         by_cases e : a' = d
         · subst e; unfold kU; rw [hn, if_pos rfl, gm]; exact Nat.le_refl _
         · unfold kU; rw [hn, if_neg e]; exact Nat.le_refl _ }
     have Ez : ∀ k A, aQ aP d k (s0.ag + 1) = some A → nth (aV (outs.flatMap RV.tc)) k = some (some A) := by
       intro k A hA; obtain ⟨sl, k1, k2, k3⟩ := a7 hA; rw [hn, if_pos rfl] at k1
       cases k1
       exact k3
     have qL : ∀ t, dV c' aP w (bI aP t) ((a.put (some d) v).eval (.tmp t)) := by
       intro t; rw [eval_put]
       by_cases e : t = d
       · subst e; rw [if_pos ⟨rfl, hd t rfl⟩]; have : bI aP t = V0 := by unfold bI; rw [hn, if_pos rfl]
         rw [this]; refine hVV c' aP (s0.ag + 1) (by rw [g3, g2]) (g4 c' aP t (s0.ag + 1) (fun b hb => Cz.j8.2 hb) (fun k _ => ?_) (fun k A _ hA => Ez k A (by simpa using hA)) (by rw [x8]; exact Nat.le_refl _)); show (if t = t then _ else _) = _; rw [if_pos rfl]
       · rw [if_neg (by rintro ⟨e2, _⟩; exact e (Option.some.inj e2).symm)]; have : bI aP t = bI st t := by unfold bI; rw [hn, if_neg e]
         rw [this]; exact fB.kZ (h.eO t)
     refine ⟨c', ⟨qL, fun s sl cs hX hs hb => ?_, fun s j sl A hX hs hA => ?_, fun b l hb => ?_, fun b hb h1 => h.free b hb (by unfold Cz.ok at *; simpa [c', Cz.dD] using h1), h.kept, h.old, by simpa [Act.put] using h.plain, fun p hp => fB.dK (h.dK p hp)⟩, fB, fun b l hl hb => ?_⟩
     case refine_4 =>
       show (c.own b).map (xi d) = _; rw [hb]; simp [(vo d).other l (.inr hl)]
     · rw [hn] at hs
       by_cases e : s = d
       · subst e; rw [if_pos rfl] at hs
         cases hs
         exact (h.boxes s s0 cs hX gm hb).dD ht fB rfl
       · rw [if_neg e] at hs; exact (h.boxes s sl cs hX hs hb).dD ht fB rfl
     · rw [hn] at hs
       by_cases e : s = d
       · subst e; rw [if_pos rfl] at hs
         cases hs
         obtain ⟨v', lH⟩ := g1 j A hA; exact lH.arr (by simp) (by simp [xi])
       · rw [if_neg e] at hs; exact (h.aI s j sl A hX hs hA).dD ht (by simp [e])
     · simp only [c', Cz.dD, Option.map_eq_some_iff] at hb; obtain ⟨k, hk, e⟩ := hb; obtain ⟨h1, h2⟩ := h.owned b k hk; refine ⟨h1, h2.imp (fun e2 => ?_) id⟩; subst e2; rw [← e]; rfl
end Go.TM
namespace Go.TM
open Go Go.RowKit
theorem Cp {st : St} {own : Bool} : (cs : List CV) → {os : List OV} → {u : List (Option Lb)} → {r : List (Nat × Nat)} → ee st own cs = some (os, u, r) → ∀ l ∈ bt u, l ∈ cs.filterMap fun x => match x with | .ref a j _ _ => some (Lb.sp a j) | _ => none
 | [], _, _, _, h => by
   simp only [ee, Option.some.injEq, Prod.mk.injEq] at h; obtain ⟨_, rfl, _⟩ := h; simp [bt]
 | x :: cs, os, u, r, h => by
   unfold ee at h
   cases hc : eU st own x with
   | none => simp [hc] at h
   | some p =>
     obtain ⟨o, u1, r1⟩ := p
     cases hq : ee st own cs with
     | none => simp [hc, hq] at h
     | some q =>
       obtain ⟨xd, us, rs⟩ := q; simp only [hc, hq, Option.some.injEq, Prod.mk.injEq] at h; obtain ⟨_, rfl, _⟩ := h; intro l hl; rw [fC] at hl; rcases List.mem_cons.1 hl with hl | hl
       · refine List.mem_filterMap.2 ⟨x, List.mem_cons_self, ?_⟩
         cases x with
         | ref a j g w =>
           unfold eU at hc; simp only at hc
           cases hA : aQ st a j g with
           | none => simp [hA] at hc
           | some A =>
             simp only [hA] at hc
             cases hm : A.md.C3 with
             | true => simp [hm] at hc
             | false =>
             simp only [hm, cond_false] at hc
             cases hb : (own && A.own && (A.md.is .sh || w.isFull)) <;> simp only [hb, cond_true, cond_false, Option.some.injEq, Prod.mk.injEq] at hc <;> obtain ⟨_, rfl, _⟩ := hc
             · cases hl
             · exact hl.symm
         | mW a j g e i k q ys =>
           unfold eU at hc; simp only at hc
           cases hA : aQ st a j g with
           | none => simp [hA] at hc
           | some A =>
             simp only [hA] at hc; obtain ⟨_, hc⟩ := aD hc; simp only [Option.some.injEq, Prod.mk.injEq] at hc; obtain ⟨_, rfl, _⟩ := hc
             cases hl
         | j6 q y off => obtain ⟨_, rfl, _⟩ := tF hc; cases hl
         | ql q y off => obtain ⟨_, rfl, _⟩ := qJ hc; cases hl
         | _ =>
           simp only [eU, Option.some.injEq, Prod.mk.injEq, reduceCtorEq] at hc
           all_goals (obtain ⟨_, rfl, _⟩ := hc; cases hl)
       · have := Cp cs hq l (fC.2 hl); obtain ⟨y, h1, h2⟩ := List.mem_filterMap.1 this; exact List.mem_filterMap.2 ⟨y, List.mem_cons_of_mem _ h1, h2⟩
theorem Gw {st : St} {m : Pm} {v : V} {av : AV} {u q : List Lb} {r : List (Nat × Nat)} (h : dC st m v = some (av, u, q, r)) : ∀ l ∈ u, (l ∈ q ∧ ∃ s j, l = .sp s j) ∨ l ∈ yc m v := by
 have single : ∀ own cs, (match ee st own cs with | some (os, u, r) => some (AV.val false os, bt u, bt u, r) | none => none) = some (av, u, q, r) → ∀ l ∈ u, (l ∈ q ∧ ∃ s j, l = .sp s j) ∨ l ∈ yc m v := by
   intro own cs h
   cases hq : ee st own cs with
   | none => simp [hq] at h
   | some p =>
     obtain ⟨os, us, rs⟩ := p; simp only [hq, Option.some.injEq, Prod.mk.injEq] at h; obtain ⟨_, rfl, rfl, _⟩ := h; exact fun l hl => .inl ⟨hl, uJ cs hq l hl⟩
 cases v with
 | kV _ => simp [dC] at h
 | agg cs =>
   have other : (match ee st m.lL cs with | some (os, u, r) => some (AV.val true os, bt u, bt u, r) | none => none) = some (av, u, q, r) → ∀ l ∈ u, (l ∈ q ∧ ∃ s j, l = .sp s j) ∨ l ∈ yc m (.agg cs) := by
     intro h
     cases hq : ee st m.lL cs with
     | none => simp [hq] at h
     | some p =>
       obtain ⟨os, us, rs⟩ := p; simp only [hq, Option.some.injEq, Prod.mk.injEq] at h; obtain ⟨_, rfl, rfl, _⟩ := h; exact fun l hl => .inl ⟨hl, uJ cs hq l hl⟩
   unfold dC at h
   cases m with
   | shr => exact other h
   | own => exact other h
   | pick _ => exact other h
   | io => exact other h
   | bo =>
     simp only at h
     cases hq : ee st true cs with
     | none => simp [hq] at h
     | some p =>
       obtain ⟨os, us, rs⟩ := p; simp only [hq] at h; obtain ⟨_, h1⟩ := aD h; simp only [Option.some.injEq, Prod.mk.injEq] at h1; obtain ⟨_, rfl, _, _⟩ := h1; exact fun l hl => .inr (Cp cs hq l hl)
 | one cx =>
   cases cx with
   | ptr b g off =>
     unfold dC at h; simp only at h
     cases hb : cX st b g with
     | none => simp [hb] at h
     | some cs =>
       simp only [hb] at h
       cases hq : ee st true cs with
       | none => simp [hq] at h
       | some p =>
         obtain ⟨os, us, rs⟩ := p; simp only [hq] at h; obtain ⟨_, h1⟩ := aD h; simp only [Option.some.injEq, Prod.mk.injEq] at h1; obtain ⟨_, rfl, rfl, _⟩ := h1; intro l hl; rcases List.mem_cons.1 hl with rfl | hl
         · exact .inr (by simp [yc])
         · exact .inl ⟨hl, uJ cs hq l hl⟩
   | ref s j g vw =>
     unfold dC at h
     cases m with
     | shr => exact single _ _ h
     | own => exact single _ _ h
     | pick _ => exact single _ _ h
     | bo => exact single _ _ h
     | io =>
       cases vw with
       | full =>
         cases hA : aQ st s j g with
         | none => simp [hA] at h
         | some A =>
           simp only [hA] at h; obtain ⟨_, h1⟩ := aD h; simp only [Option.some.injEq, Prod.mk.injEq] at h1; obtain ⟨_, rfl, _, _⟩ := h1; exact fun l hl => .inr (by simpa [yc] using hl)
       | «from» _ => simp at h
       | sub _ _ => simp at h
   | _ =>
     unfold dC at h; simp only at h
     split at h
     · rename_i os us rs hq; simp only [Option.some.injEq, Prod.mk.injEq] at h; obtain ⟨_, rfl, rfl, _⟩ := h; exact fun l hl => .inl ⟨hl, uJ _ hq l hl⟩
     · cases h
theorem Aw {st : St} : (ms : List (Pm × V)) → {cN : List AV} → {u q : List Lb} → {r : List (Nat × Nat)} → gq st ms = some (cN, u, q, r) → ∀ l ∈ u, (l ∈ q ∧ ∃ s j, l = .sp s j) ∨ ∃ m ∈ ms, l ∈ yc m.1 m.2
 | [], _, _, _, _, h => by
   simp only [gq, Option.some.injEq, Prod.mk.injEq] at h; obtain ⟨_, rfl, _⟩ := h; simp
 | (m, v) :: ms, cN, u, q, r, h => by
   unfold gq at h
   cases h1 : dC st m v with
   | none => simp [h1] at h
   | some p1 =>
     obtain ⟨av, u1, q1, r1⟩ := p1
     cases h2 : gq st ms with
     | none => simp [h1, h2] at h
     | some p2 =>
       obtain ⟨NN, u2, q2, r2⟩ := p2; simp only [h1, h2, Option.some.injEq, Prod.mk.injEq] at h; obtain ⟨rfl, rfl, rfl, rfl⟩ := h; intro l hl; rcases List.mem_append.1 hl with hl | hl
       · rcases Gw h1 l hl with ⟨h3, h4⟩ | h3
         · exact .inl ⟨List.mem_append_left _ h3, h4⟩
         · exact .inr ⟨(m, v), List.mem_cons_self, h3⟩
       · rcases Aw ms h2 l hl with ⟨h3, h4⟩ | ⟨m', h3, h4⟩
         · exact .inl ⟨List.mem_append_right _ h3, h4⟩
         · exact .inr ⟨m', List.mem_cons_of_mem _ h3, h4⟩
theorem yO {st : St} : (ms : List (Pm × V)) → {cN : List AV} → {u q : List Lb} → {r : List (Nat × Nat)} → gq st ms = some (cN, u, q, r) → ∀ (k : Nat) (m : Pm × V) (av : AV), ms[k]? = some m → cN[k]? = some av → KQ st m av
 | [], _, _, _, _, _ => by intro k m av hm; simp at hm
 | (m, v) :: ms, cN, u, q, r, h => by
   unfold gq at h
   cases h1 : dC st m v with
   | none => simp [h1] at h
   | some p1 =>
     obtain ⟨av, u1, q1, r1⟩ := p1
     cases h2 : gq st ms with
     | none => simp [h1, h2] at h
     | some p2 =>
       obtain ⟨NN, u2, q2, r2⟩ := p2; simp only [h1, h2, Option.some.injEq, Prod.mk.injEq] at h; obtain ⟨rfl, rfl, rfl, rfl⟩ := h; intro k m' Ii hm EF
       cases k with
       | zero => simp at hm EF; subst hm EF; exact ⟨u1, q1, r1, h1⟩
       | succ k => exact yO ms h2 k m' Ii (by simpa using hm) (by simpa using EF)
theorem Jd (a b c : Pm) (l : List V) : (sN a b c l).map (·.2) = l := by
 rcases l with _ | ⟨x, _ | ⟨y, _ | ⟨z, l⟩⟩⟩ <;> simp [sN, Function.comp_def]
theorem Cz.vJ : (m : List (Nat × Nat)) → (c : Cz) → {b : Nat} → {l : Lb} → c.own b = some l → (∀ p ∈ m, l ≠ .sp p.1 p.2) → (c.drop m).own b = some l
 | [], _, _, _, h, _ => h
 | (s, j) :: m, c, b, l, h, hm => Cz.vJ m (c.drop1 s j) (Cz.oO h (hm (s, j) List.mem_cons_self)) (fun p hp => hm p (List.mem_cons_of_mem _ hp))
def kr (P : Program) (S : hU) : Prop :=
 ∀ f a b c yz, S f = some (a, b, c, yz) → FnOk P f yz ∧ ∃ fn, P.funcs[f]? = some fn ∧ (fn.name == "runtime.NumGoroutine") = false ∧ fn.body.isNone = false
theorem EG {P : Program} {w0 : World} {mu : Mu} {c : Cz} {st aP : St} {a : Act} {w : World} (h : Rel w0 mu c st a w) {o : Oper} {f : FuncId} {vals : Array Value} (mz : (execOp a.eval o).run P w = .ok (.enter f vals) w)
   {yz : td} (Je : FnOk P f yz) {ms : List (Pm × V)}
   (hlen : ms.length = vals.toList.length) (tJ : ∀ (k : Nat) (m : Pm × V) (x : Value), ms[k]? = some m → vals.toList[k]? = some x → dV c st w m.2 x)
   {fin : St → N} (hv : (D9 st o.dst yz ms fin).val = some aP) (hd : ∀ k, o.dst = some k → k < a.tmps.size) {kp : Bool} (NM : kp = true → Gc st ms = true)
   (Jf : ∀ (c5 : Cz) (fG : St) (a2 : Act) (w' : World), Rel w0 mu c5 fG a2 w' → Fw c st w c5 fG w' →
     (∀ cN u q r, gq st ms = some (cN, u, q, r) → ∀ b l, l.real = true → l ∉ u → (∀ p ∈ r, l ≠ .sp p.1 p.2) → c.own b = some l → w'.heap[b]? = w.heap[b]? ∧ c5.own b = some l) →
     (fin fG).val = some aP → ∃ c6, Rel w0 mu c6 aP a2 w') : tE P w0 mu aP o a w kp := by
   unfold D9 at hv; unfold Gc at NM
   cases he : gq st ms with
   | none => simp [he, N.val] at hv
   | some p =>
     obtain ⟨cN, u, q, r⟩ := p; simp only [he] at hv NM; obtain ⟨hc, hv⟩ := cQ hv; rw [Bool.and_eq_true] at hc
     cases hs : yz cN with
     | none => simp [hs, N.val] at hv
     | some p =>
       simp only [hs] at hv
       cases YD : p.o with
       | none => rw [YD] at hv; cases hv
       | some x =>
       rw [YD] at hv; have Gx := hv; clear hv; unfold N.val at Gx; simp only at Gx; generalize Ad : p.res x = res at Gx
       cases SO : rk (mg (wO (bif res.plain then st else freeze st r)) q) ms res.exts with
       | none => simp [SO, N.val] at Gx
       | some xY =>
         simp only [SO] at Gx
         cases YE : tf xY o.dst res.outs with
         | none => simp [YE, N.val] at Gx
         | some fG =>
           simp only [YE] at Gx; have Gx : (fin fG).val = some aP := Gx; obtain ⟨yP, hqu, tb, KT, T4, Jg, hold⟩ := Cn h ms 0 _ hlen tJ he; have Gj := mi u yP hc.1; have BI : ∀ p ∈ r, Lb.sp p.1 p.2 ∉ u := by
             intro p hp hm; have h1 := List.all_eq_true.1 hc.2 p hp; have h2 := List.all_eq_true.1 h1 _ hm; rw [(Lb.xe rfl).2 rfl] at h2
             cases h2
           let lc : Nat → Nat → Loc := fun k => match ms[k]? with | some m => yM c m.2 | none => fun _ => .nil
           have oQ := Classical.propDecidable
           let ρ : Lb → Option Lb := fun l => match look tb l with | some y => some y | none => if (∃ p ∈ r, l = .sp p.1 p.2) then none else some .out
           have xj : ∀ {l y}, look tb l = some y → l ∈ u ∧ y.iO = true := by
             intro l y hl; have := uI tb hl; exact ⟨by rw [← KT]; exact List.mem_map.2 ⟨_, this, rfl⟩, T4 _ this⟩
           have hρr : ∀ p ∈ r, ρ (.sp p.1 p.2) = none := by
             intro p hp; show (match look tb (.sp p.1 p.2) with | some y => some y | none => if (∃ p' ∈ r, Lb.sp p.1 p.2 = .sp p'.1 p'.2) then none else some .out) = none
             cases hl : look tb (.sp p.1 p.2) with
             | some y => exact absurd (xj hl).1 (BI p hp)
             | none => simp only; rw [if_pos ⟨p, hp, rfl⟩]
           have hρt : ∀ p ∈ tb, ρ p.1 = some p.2 := by
             intro p hp; have := xf tb (by rw [KT]; exact Gj) hp; show (match look tb p.1 with | some y => some y | none => _) = _; rw [this]
           have hρh : ∀ {l y}, ρ l = some y → y = .out ∨ (y.iO = true ∧ l ∈ u) := by
             intro l y hl; have hl : (match look tb l with | some y => some y | none => if (∃ p ∈ r, l = .sp p.1 p.2) then none else some .out) = some y := hl
             cases hk : look tb l with
             | some z =>
               rw [hk] at hl
               cases hl
               exact .inr ⟨(xj hk).2, (xj hk).1⟩
             | none =>
               rw [hk] at hl; simp only at hl
               split at hl
               · cases hl
               · cases hl; exact .inl rfl
           have hρn : ∀ {l}, ρ l = none → ∃ p ∈ r, l = .sp p.1 p.2 := by
             intro l hl; have hl : (match look tb l with | some y => some y | none => if (∃ p ∈ r, l = .sp p.1 p.2) then none else some .out) = none := hl
             cases hk : look tb l with
             | some z => rw [hk] at hl; cases hl
             | none =>
               rw [hk] at hl; simp only at hl
               split at hl
               · assumption
               · cases hl
           let μ : Mu := { m := fun b => ∃ l, (c.map ρ).own b = some l ∧ l.iO = true, ok := fun b => (c.map ρ).own b = none, an := [] }
           have hH : Handed (c.map ρ) w μ := {
             m := fun b => Iff.rfl
             ok := fun b => Iff.rfl
             lt := fun b l hb => by
               obtain ⟨k, hk, _⟩ := Cz.map_some hb; exact (h.owned b k hk).1
             lb := fun b l hb => by
               obtain ⟨k, hk, e⟩ := Cz.map_some hb; exact (hρh e).imp id (·.1) }
           have hA := hold ρ lc (fun k m hm => by simp only [Nat.zero_add, lc, hm]) hρt hρr; have jS := Je (c.map ρ) w μ lc cN vals p x hH hA hs YD; rw [Ad] at jS; intro Q; unfold Oper.wp; rw [mz, Oper.upon_enter]; refine jS.mono fun e w' Ax => ?_
           obtain ⟨v, rfl, c1, yd, hV, hX⟩ := Ax; obtain ⟨c2, s2, Nk, YF, YG, XA, YH, YI⟩ : ∃ (c2 : Cz) (s2 : St), (bif res.plain then st else freeze st r) = s2 ∧ Rel w0 mu c2 s2 a w ∧ Fw c st w c2 s2 w ∧ (∀ b, μ.m b → ∃ l, c2.own b = some l ∧ l ∈ u) ∧ (res.plain = true ∨ ∀ b, μ.ok b → c2.own b = none) ∧
               (∀ b l, (∀ p ∈ r, l ≠ .sp p.1 p.2) → c.own b = some l → c2.own b = some l) := by
             have hm : ∀ b, μ.m b → ∃ l, c.own b = some l ∧ l ∈ u := by
               rintro b ⟨l, hl, hh⟩
               obtain ⟨k, hk, e⟩ := Cz.map_some hl; rcases hρh e with e2 | e2
               · subst e2; cases hh
               · exact ⟨k, hk, e2.2⟩
             cases hp : res.plain with
             | true => exact ⟨c, st, rfl, h, Fw.refl c st w, hm, .inl rfl, fun _ _ _ h => h⟩
             | false =>
               refine ⟨c.drop r, freeze st r, rfl, Rel.freeze r h, Fw.freeze w r c st, fun b hb => ?_, .inr fun b hb => ?_, fun b l hl hb => Cz.vJ r c hb hl⟩
               · obtain ⟨l, h1, h2⟩ := hm b hb; exact ⟨l, Cz.vJ r c h1 (fun p hp e => BI p hp (e ▸ h2)), h2⟩
               · have hb : (c.own b).bind ρ = none := hb
                 cases hk : c.own b with
                 | none => exact Cz.wT r c b hk
                 | some l =>
                   rw [hk] at hb; obtain ⟨p, hp, e⟩ := hρn hb; subst e; exact Cz.zG r c b hk hp
           rw [Nk] at SO; obtain ⟨g1, g2, gfr, g3, g4⟩ := YF.T1 yd (X := fun l => l ∈ u) XA (fun l hl e => by subst e; cases yP _ hl); have Gy : (∀ b, c1.ok b → (c2.merge c1 w.heap.size μ.m).ok b) ∨ res.plain = true := by
             rcases YH with h1 | h1
             · exact .inr h1
             · exact .inl (g4 h1)
           have KU : res.plain = true → res.outs.all (fun o => o.tc.all OV.plain) = true ∧ res.exts.all XV.plain = true := by
             intro hp; unfold Xq.plain at hp
             rwa [Bool.and_eq_true] at hp
           have hV' : oT (c2.merge c1 w.heap.size μ.m) w' res.outs v := hV.pass (fun b j => g3 b (.gn j) rfl) (Gy.imp id fun hp => (KU hp).1); have I9 : gd (c2.merge c1 w.heap.size μ.m) w' lc 0 cN vals.toList res.exts := gd.pass cN 0 (fun b k _ => g3 b (.qD k) rfl) (fun b k j _ => g3 b (.bB k j) rfl) _ _ (Gy.imp id fun hp => (KU hp).2) hX; obtain ⟨c3, k1, k2, k3⟩ := vI q g1; have T5 : ∀ b, (c2.merge c1 w.heap.size μ.m).ok b → c3.ok b := fun b hb => by unfold Cz.ok at *; rw [k3]; exact hb
           have hV3 : oT c3 w' res.outs v := hV'.pass (fun b j hb => by rw [k3]; exact hb) (.inl T5); have hX3 : gd c3 w' lc 0 cN vals.toList res.exts := gd.pass cN 0 (fun b k _ hb => by rw [k3]; exact hb) (fun b k j _ hb => by rw [k3]; exact hb) _ _ (.inl T5) I9; obtain ⟨c4, l1, l2, l3⟩ := Av ms 0 cN _ _ k1 ((YG.trans g2).trans k2) tJ (yO ms he) Jg.symm hlen (fun k m hm => by simp only [Nat.zero_add, lc, hm]) hX3 SO; have hV4 : oT c4 w' res.outs v := hV3.pass (fun b j => l3.bB b (.gn j) (.inl ⟨j, rfl⟩)) (.inl l3.ok); obtain ⟨c5, n1, n2, n3⟩ := l1.laid hV4 YE hd; have T6 : Rel w0 mu c5 fG (a.put o.dst v) w' := by
             refine (n1.mono (X' := fun _ => False) (fun l hl => ?_)).rel; obtain ⟨⟨No, QB⟩, YJ⟩ := hl; rcases Aw ms he l No with ⟨h1, s, j, e⟩ | ⟨m, h1, h2⟩
             · subst e; exact QB s j h1 rfl
             · exact YJ m h1 h2
           obtain ⟨c6, hc6⟩ := Jf c5 fG _ w' T6 (l2.trans n2) (fun NN u' q' r' P9 b l No QB YJ hb => by
             rw [he] at P9; simp only [Option.some.injEq, Prod.mk.injEq] at P9; obtain ⟨rfl, rfl, rfl, rfl⟩ := P9; have Gv := YI b l YJ hb; obtain ⟨f1, f2⟩ := gfr b l Gv QB; refine ⟨f1, n3 b l No (l3.bB b l (.inr No) ?_)⟩; rw [k3, f2]; exact Gv) Gx
           refine ⟨⟨c6, hc6, oR _ _ _⟩, fun YK => ⟨yd.kept.2.2.2, fun k hk => yd.old k hk (fun Xy => ?_)⟩⟩; have hu0 : u = [] := by simpa using NM YK
           obtain ⟨_, _, Ae⟩ := XA k Xy; rw [hu0] at Ae
           cases Ae
end Go.TM
