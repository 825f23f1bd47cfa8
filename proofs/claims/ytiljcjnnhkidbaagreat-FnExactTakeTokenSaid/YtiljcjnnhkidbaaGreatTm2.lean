/- A machine over trees: an evaluator of the code, and that what it finds is so; part 2. -/
import Derived.Test.YtiljcjnnhkidbaaGreatTm1
import Derived.Laws.MakeOwn
import Derived.Great.BuildSlice
import Derived.Laws.Cover3
import Derived.Laws.BytesString
import Derived.Tactics
namespace Go.TM
open Go Go.RowKit
theorem wh {b : Bool} {t e : N} {y : St} (h : (N.br b t e).val = some y) : (b = true ∧ t.val = some y) ∨ (b = false ∧ e.val = some y) := by
 cases b
 · exact .inr ⟨rfl, h⟩
 · exact .inl ⟨rfl, h⟩
theorem fZ {b : Bool} {t : N} {y : St} (h : (N.br b t N.fail).val = some y) : b = true ∧ t.val = some y := by
 rcases wh h with h | ⟨_, h⟩
 · exact h
 · simp [N.val] at h
theorem Fa {st : St} {y : V} {b k : Nat} {B : iN} (h : Nj st y = some (b, k, B)) : ∃ g, y = .one (.ref b k g .full) ∧ bl st b k g = some B ∧ B.own = true ∧ B.md = .dp := by
 unfold Nj at h
 split at h
 · rename_i a' j' g
   cases hA : bl st a' j' g with
   | none => rw [hA] at h; cases h
   | some A =>
     rw [hA] at h; obtain ⟨h1, h2⟩ := aH h; rw [Bool.and_eq_true] at h1; simp only [Option.some.injEq, Prod.mk.injEq] at h2; obtain ⟨rfl, rfl, rfl⟩ := h2; exact ⟨g, rfl, hA, h1.1, Md.oG.1 h1.2⟩
 · cases h
theorem Bw {c : Cz} {w : World} {s j : Nat} {A : iN} (h : cz c w s j A) (ho : A.own = true) (hm : A.md = .dp) {v : Value} (hv : jJ (c.lc s j) A.r.width 0 A.xs.length v) :
   ∃ (g : Nat → List Nat) (vs : List Value) (xb : Option Nat), dN w (fun p k => c.own k = some (.sp s j) ∧ g k = p) A.r 0 vs A.xs ∧ (∀ b, xb = some b → c.own b = some (.sp s j) ∧ g b = []) ∧
     ((xb = none ∧ v = .slice none 0 0 ∧ A.xs.length = 0) ∨ ∃ b off lo cap n ad cur te, xb = some b ∧ v = .slice (some ad) A.xs.length n ∧ A.xs.length ≤ n ∧ lo + n ≤ cap ∧ (n ≠ 0 → ad = ⟨b, off + lo * A.r.width, none⟩) ∧
     w.heap[b]? = some (.cells cur te (0, 0)) ∧ off + cap * A.r.width ≤ cur.size ∧ w.rangeAt b (off + lo * A.r.width) vs) := by
 unfold cz at h
 cases hl : c.lc s j with
 | nil =>
   rw [hl] at h hv; refine ⟨fun _ => [], [], none, by rw [h]; rfl, (fun b e => by cases e), .inl ⟨rfl, hv.1, hv.2⟩⟩
 | «at» b off cap =>
   rw [hl] at h hv; obtain ⟨h0, h2, ⟨cur, te, h3, h4⟩, h5⟩ := h; rw [ho] at h0; unfold cf at h5; rw [hm] at h5; obtain ⟨g, g1, g2⟩ := h5; obtain ⟨ad, n, e, k1, k2, k3⟩ := hv; obtain ⟨vs, q1, q2⟩ := Bv b off 0 A.xs (fun i x hx => by rw [Nat.zero_add]; exact g2 i x hx); exact ⟨g, vs, some b, q2, (fun b' e => by cases e; exact ⟨h0, g1⟩), .inr ⟨b, off, 0, cap, n, ad, cur, te, rfl, e, k1, by omega, k3, h3, h4, by simpa using q1⟩⟩
def Sc (n : Nat) : List Nat → List Nat
 | [] => []
 | i :: l => (i + n) :: l
theorem Hc {P : Program} {T : lZ} (hT : gX P T) {w0 : World} {mu : Mu} {c : Cz} {st : St} {a : Act} {w : World} (h : Rel w0 mu c st a w)
   {d : Option Nat} {t ty : Nat} {r : RT} {bytes : Nat} (ht : T.elem t = some (r, bytes)) {x : V} {ux uy : Value} {b k gb : Nat} {B : iN} {ys : List (aq r)} (hx : fY c st w x ux) (hy : kX c st w (.ref b k gb .full) uy) (hB : bl st b k gb = some B) (W7 : B.own = true) (Sd : B.md = .dp)
   (W8 : ck r B.xs = some ys) {bh : St} (hv : (CF st d r bytes x b k ys).val = some bh) (hd : ∀ k, d = some k → k < a.tmps.size) :
   ∃ v w', (Builtin.append_ #[t, t] ty #[ux, uy]).run P w = .ok v w' ∧ ∃ c', Rel w0 mu c' bh (a.put d v) w' := by
 obtain ⟨e, he⟩ := bA W8; subst e; simp only at he; subst he; obtain ⟨gy, vy, yb, GZ, hyb, hyc⟩ := Bw (h.vJ hB) W7 Sd (hy.2.2 B hB); have Ph : (B.xs.length = 0 ∧ (uy = .slice none 0 0 ∨ ∃ a c, uy = .slice (some a) 0 c)) ∨ (B.xs.length ≠ 0 ∧ ∃ a c, uy = .slice (some a) B.xs.length c ∧ ∀ (j : Nat) v, vy[j]? = some v → w.cell? (a.add j) = some v) := by
   rcases hyc with ⟨_, e1, e2⟩ | ⟨b', off, lo, cap, n, ad, cur, te, _, e1, e2, e3, e4, e5, e6, e7⟩
   · exact .inl ⟨e2, .inl e1⟩
   · by_cases h0 : B.xs.length = 0
     · exact .inl ⟨h0, .inr ⟨ad, n, by rw [e1, h0]⟩⟩
     · refine .inr ⟨h0, ad, n, e1, fun j v hv => ?_⟩; rw [e4 (by omega), Addr.add_mid]; exact e7 j v hv
 unfold CF at hv
 split at hv
 · -- behind nothing
   obtain ⟨hb, hv⟩ := fZ hv; obtain ⟨kk, s0, rfl, jb, rfl⟩ := nf hv; obtain ⟨CT, Ch, _, _, _⟩ := nG [(b, k)] h; have hR := CT.kQ Ch kk 0; refine E9 hT hR ht (xs := []) (ys := B.xs) (vx := []) (vy := vy) (PX := fun _ _ => False) (PY := fun p q => c.own q = some (.sp b k) ∧ gy q = p) (g := gy) (xb := none) jb (hd kk rfl) (Nat.le_of_ble_eq_true hb) rfl GZ (fun _ _ _ h => h.elim) (fun i q k' hk => ⟨by simp, Cz.pI (n := (b, k)) (by simp) hk.1, by simpa using hk.2⟩) Ph (fun _ e => by cases e) (.inl ⟨rfl, hx, rfl⟩)
 · rename_i a' j g vw
   split at hv
   · rename_i A V5; obtain ⟨g2, e1, hA, hAo, hAm⟩ := Fa V5; injection e1 with e1; injection e1 with q1 q2 q3 q4; subst q1 q2 q3 q4
     cases sy : ck B.r A.xs with
     | none => rw [sy] at hv; simp [N.val] at hv
     | some xs =>
       rw [sy] at hv; simp only at hv; obtain ⟨gW, hv⟩ := fl hv; obtain ⟨hb, hv⟩ := fZ hv; obtain ⟨kk, s0, rfl, jb, rfl⟩ := nf hv; obtain ⟨r0, Ja, qj, Se⟩ := A; obtain ⟨e, he⟩ := bA sy; simp only at e; subst e; simp only at he; subst he; have Nw : Lb.sp a' j ≠ Lb.sp b k := by
         intro e; injection e with e1 e2; subst e1 e2; simp at gW
       obtain ⟨gx, vx, xb, IQ, Lv, hxc⟩ := Bw (h.vJ hA) hAo hAm (hx.2.2 _ hA); obtain ⟨CT, Ch, _, _, _⟩ := nG [(a', j), (b, k)] h; have hR := CT.kQ Ch kk 0; have CW : ∀ q, c.own q = some (.sp a' j) → (c.kQ [(a', j), (b, k)] (.sp kk 0)).own q = some (.sp kk 0) := fun q hq => Cz.pI (n := (a', j)) (by simp) hq
       classical
       refine E9 hT hR ht (xs := xs) (ys := B.xs) (vx := vx) (vy := vy) (PX := fun p q => c.own q = some (.sp a' j) ∧ gx q = p) (PY := fun p q => c.own q = some (.sp b k) ∧ gy q = p)
         (g := fun q => if c.own q = some (.sp b k) then Sc xs.length (gy q) else gx q) (xb := xb) jb (hd kk rfl) (Nat.le_of_ble_eq_true hb) IQ GZ (fun i q k' hk => ⟨?_, CW _ hk.1, ?_⟩) (fun i q k' hk => ⟨?_, Cz.pI (n := (b, k)) (by simp) hk.1, ?_⟩) Ph (fun b' e => CW _ (Lv b' e).1) ?_
       · intro e; have := (Lv k' e).2; rw [hk.2] at this; simp at this
       · rw [if_neg]
         · exact hk.2
         · rw [hk.1]; intro e; exact Nw (Option.some.inj e)
       · intro e; have := (Lv k' e).1; rw [hk.1] at this; exact Nw (Option.some.inj this).symm
       · rw [if_pos hk.1, hk.2]; rfl
       · exact hxc
   · simp [N.val] at hv
 · simp [N.val] at hv
theorem Jb {P : Program} {T : lZ} (hT : gX P T) {w0 : World} {mu : Mu} {c : Cz} {st : St} {a : Act} {w : World} (h : Rel w0 mu c st a w)
   {d : Option Nat} {t ty : Nat} {x y : V} {ux uy : Value} (hx : fY c st w x ux) (hy : fY c st w y uy) {bh : St} (hv : (F0 T st d t x y).val = some bh) (hd : ∀ k, d = some k → k < a.tmps.size) :
   ∃ v w', (Builtin.append_ #[t, t] ty #[ux, uy]).run P w = .ok v w' ∧ ∃ c', Rel w0 mu c' bh (a.put d v) w' := by
 unfold F0 at hv
 cases ht : T.elem t with
 | none => simp [ht, N.val] at hv
 | some p =>
   obtain ⟨r, bytes⟩ := p; simp only [ht] at hv
   cases V5 : Nj st y with
   | some q =>
     obtain ⟨b, k, B⟩ := q; rw [V5] at hv; simp only at hv; obtain ⟨gb, rfl, hB, W7, Sd⟩ := Fa V5
     cases W8 : ck r B.xs with
     | none => rw [W8] at hv; simp [N.val] at hv
     | some ys =>
       rw [W8] at hv; exact Hc hT h ht hx hy hB W7 Sd W8 hv hd
   | none =>
   rw [V5] at hv; simp only at hv; have tail : ∀ (xs : List (aq r)) (used : List (Nat × Nat)), (match y with
         | .one c => mn st r c fun ys => N.br (Nat.ble ((xs.length + ys.length) * bytes) lim)
             (bX (used.foldl (fun (s : St) (p : Nat × Nat) => cj s p.1 p.2 none) st) d { r := r, own := true, xs := xs ++ ys }) .fail
         | _ => N.fail).val = some bh →
       ∃ ys k s0, d = some k ∧ nth (used.foldl (fun (s : St) (p : Nat × Nat) => cj s p.1 p.2 none) st) k = some s0 ∧ (xs.length + ys.length) * bytes ≤ lim ∧ V4 w c.ok r uy ys ∧
         bh = nA (fun s => { s with v := .one (.ref k 0 (s0.ag + 1) .full), aP := [some { r := r, own := true, xs := xs ++ ys }], ag := s0.ag + 1 }) (used.foldl (fun (s : St) (p : Nat × Nat) => cj s p.1 p.2 none) st) k := by
     intro xs used hv
     cases y with
     | agg _ => simp [N.val] at hv
     | ot _ => simp [N.val] at hv
     | one cy =>
       obtain ⟨ys, hv, hr⟩ := Bs h hy hv; obtain ⟨hb, hv⟩ := fZ hv; obtain ⟨k, s0, hk, jb, s3⟩ := nf hv; exact ⟨ys, k, s0, hk, jb, Nat.le_of_ble_eq_true hb, hr, s3⟩
   cases x with
   | agg _ => simp [N.val] at hv
   | ot _ => simp [N.val] at hv
   | one cx => cases cx with
     | eI =>
       obtain ⟨ys, k, s0, rfl, jb, hb, hr, rfl⟩ := tail [] [] hv; exact E8 hT h ht jb (hd k rfl) hb hr (.inl ⟨hx, rfl⟩)
     | ref a' j g vw =>
       simp only at hv
       cases hA : bl st a' j g with
       | none => simp [hA, N.val] at hv
       | some A =>
         simp only [hA] at hv; obtain ⟨gP, hv⟩ := fl hv; rw [Bool.and_eq_true] at gP; have xY := Md.oG.1 gP.2; have gP := gP.1
         cases hc : ck r A.xs with
         | none => simp [hc, N.val] at hv
         | some xs =>
           simp only [hc] at hv; obtain ⟨e, he⟩ := bA hc; subst e; simp only at he; subst he; obtain ⟨ys, k, s0, rfl, jb, hb, hr, rfl⟩ := tail (vw.app A.xs) [(a', j)] hv; obtain ⟨CT, Ch⟩ := h.kill a' j; obtain ⟨sl, Ev, Pe, Ew⟩ := bN hA; have G5 := h.aP a' j sl A Ev Ew; have hs := hx.2.2 A hA; refine E8 hT CT ht jb (hd k rfl) hb hr ?_
           cases hl : c.lc a' j with
           | nil =>
             unfold jJ at hs; rw [hl] at hs; exact .inl ⟨hs.1, List.length_eq_zero_iff.1 hs.2⟩
           | «at» b off cap =>
             unfold jJ at hs; rw [hl] at hs; obtain ⟨ad, n, rfl, hn, zg, G0⟩ := hs; unfold cz at G5; rw [hl] at G5; obtain ⟨ho, _, acd, iP⟩ := G5; rw [gP] at ho; exact .inr ⟨a', j, b, off, vw.lo, cap, n, ad, ho, Ch, rfl, hn, zg, G0, acd, fun i x hi => (cf.sh xY).1 iP _ x (View.w9 vw A.xs hi)⟩
     | _ => simp [N.val] at hv
theorem wi {w : World} {ok : Nat → Prop} : (r : RT) → (vs : List Value) → jy r vs → dD w ok r vs (th r)
 | .nil, vs, h => h
 | .cons (.int k) r, vs, ⟨l, h, h'⟩ => ⟨.int k 0, l, h, rD.2 rfl, wi r l h'⟩
 | .cons .bool r, vs, ⟨l, h, h'⟩ => ⟨.bool false, l, h, sD.2 rfl, wi r l h'⟩
 | .cons .str r, vs, ⟨l, h, h'⟩ => ⟨.string ByteArray.empty, l, h, vZ.2 rfl, wi r l h'⟩
 | .cons (.sl q) r, vs, ⟨l, h, h'⟩ => ⟨.slice none 0 0, l, h, (oE _ _ _ _ _).2 (.inl ⟨rfl, rfl⟩), wi r l h'⟩
theorem bB.replicate {w : World} {ok : Nat → Prop} {r : RT} {vs : List Value} {x : aq r} (h : dD w ok r vs x) : (n : Nat) → bB w ok r ((List.replicate n vs).flatten) (List.replicate n x)
 | 0 => rfl
 | n + 1 => ⟨vs, (List.replicate n vs).flatten, by simp [List.replicate_succ], h, bB.replicate h n⟩
theorem CX (z : Array Value) (n W : Nat) (hz : z.size = W) (hW : 0 < W) : ((Array.range (n * W)).map (z[· % z.size]!)).toList = (List.replicate n z.toList).flatten := by
 subst hz
 induction n with
 | zero => simp
 | succ n ih =>
   have e1 : ((Array.range ((n + 1) * z.size)).map (z[· % z.size]!)).toList = ((Array.range (n * z.size)).map (z[· % z.size]!)).toList ++ z.toList := by
     apply List.ext_getElem
     · simp [Nat.add_mul]
     · intro k h1 h2; simp only [Array.getElem_toList, Array.getElem_map, Array.getElem_range]; rw [List.getElem_append]
       by_cases hk : k < n * z.size
       · rw [dif_pos (by simpa using hk)]; simp
       · rw [dif_neg (by simpa using hk)]; have Ch : k < (n + 1) * z.size := by simpa using h1
         rw [Nat.add_mul, Nat.one_mul] at Ch; have hm : k % z.size = k - n * z.size := by
           have : k = (k - n * z.size) + n * z.size := by omega
           rw [this, Nat.add_mul_mod_self_right, Nat.mod_eq_of_lt (by omega)]; omega
         have dm : k - n * z.size < z.size := by omega
         simp [hm, dm]
   rw [e1, ih]; rw [List.replicate_succ', List.flatten_append]; simp
theorem Nx {P : Program} {T : lZ} (hT : gX P T) {w0 : World} {mu : Mu} {c : Cz} {st : St} {a : Act} {w : World} (h : Rel w0 mu c st a w)
   {d : Option Nat} {t : Nat} {x y : V} {ux uy : Value} (hx : fY c st w x ux) (hy : fY c st w y uy) {bh : St} (hv : (Nk T st d t x y).val = some bh) (hd : ∀ k, d = some k → k < a.tmps.size) :
   ∃ v w', (Instr.makeSlice t ux uy).run P w = .ok v w' ∧ ji w w' ∧ ∃ c', Rel w0 mu c' bh (a.put d v) w' := by
 unfold Nk at hv
 split at hv
 · rename_i r bytes n m ht; obtain ⟨PD, hv⟩ := fZ hv; obtain ⟨hn, hv⟩ := fZ hv; obtain ⟨hb, hv⟩ := fZ hv; obtain ⟨k, s0, rfl, jb, rfl⟩ := nf hv; have PD := of_decide_eq_true PD; have hn := of_decide_eq_true hn; have hb := Nat.le_of_ble_eq_true hb; subst PD; obtain ⟨n, rfl⟩ := Int.eq_ofNat_of_zero_le hn; obtain ⟨e, i, z, hu, hi, mm, ED, W5, KA, hz, Lu⟩ := hT.elem t r bytes ht; have Hb : z.cells.size = r.width := by have := jy.length r _ Lu; simpa using this
   have e1 : ux = .int .i64 n := hx; have e2 : uy = .int .i64 n := hy; subst e1 e2; unfold lim at hb; simp only [Int.toNat_natCast] at hb; have hn1 : n ≤ 35184372088832 := by
     have : n * 1 ≤ n * bytes := Nat.mul_le_mul_left _ KA; omega
   have ahc : IntKind.i64.wrap (n : Int) = n := by
     have := IntKind.wrap_i64 (n : Int); rw [this]; omega
   have pJ : (Instr.makeSlice t (.int .i64 n) (.int .i64 n)).run P w =
       .ok (.slice (some ⟨w.heap.size, 0, none⟩) n n) (w.alloc (.cells ((Array.range (n * r.width)).map (z.cells[· % z.cells.size]!)) e (0, 0))) := by
     have := run_make (P := P) w t e i z hu hi hz .i64 .i64 n n (by omega) (Int.le_refl _) (by
       have h2 : ((i.bytes * n : Nat) : Int) ≤ 281474976710656 := by rw [W5, Nat.mul_comm]; omega
       rwa [Int.natCast_mul] at h2) (by omega)
     simpa [madeCells, mm] using this
   refine ⟨_, _, pJ, ji.alloc _ _, ?_⟩
   cases V5 : T.dp t with
   | true =>
     have := h.Gc (r := r) (P := fun _ _ => False) (g := fun _ => []) (xs := List.replicate n (th r)) (cur := (Array.range (n * r.width)).map (z.cells[· % z.cells.size]!)) (ty := e) (cap := n) jb (hd k rfl) (by simp) (by simp) (dN.replicate (fun i => wg r [i] 0 _ Lu) n 0) (fun _ _ _ h => h.elim) (by
       rw [← CX z.cells n r.width Hb ED, List.take_length])
     simpa using this
   | false =>
   have zp : bB w c.ok r ((List.replicate n z.cells.toList).flatten) (List.replicate n (th r)) := bB.replicate (wi r _ Lu) n; have := h.fresh (r := r) (xs := List.replicate n (th r)) (cur := (Array.range (n * r.width)).map (z.cells[· % z.cells.size]!)) (ty := e) (cap := n) jb (hd k rfl) (by simp) (by simp) zp (by
     rw [← CX z.cells n r.width Hb ED, List.take_length])
   simpa using this
 · simp [N.val] at hv
end Go.TM
namespace Go.TM
open Go Go.RowKit
theorem zq (off : Nat) : (l : List Value) → (k : Nat) → (cells : Array Value) → off + k + l.length ≤ cells.size →
   ((l.zipIdx k).foldl (fun cs (p : Value × Nat) => cs.setIfInBounds (off + p.2) p.1) cells).toList = cN cells.toList (off + k) l
 | [], k, cells, _ => by simp [cN]
 | v :: l, k, cells, h => by
   simp only [List.zipIdx_cons, List.foldl_cons, List.length_cons] at h ⊢; rw [zq off l (k + 1) _ (by simp; omega)]; rw [Array.toList_setIfInBounds]; apply List.ext_getElem?; intro q; rw [mR (by simp; omega), mR (by simp; omega), List.getElem?_set]; simp only [List.length_cons]
   by_cases h1 : off + (k + 1) ≤ q ∧ q < off + (k + 1) + l.length
   · rw [if_pos h1, if_pos (by omega)]; rw [show q - (off + k) = (q - (off + (k + 1))) + 1 by omega, List.getElem?_cons_succ]
   · rw [if_neg h1]
     by_cases h2 : off + k = q
     · subst h2; rw [if_pos rfl, if_pos (by simp; omega), if_pos (by omega)]; simp
     · rw [if_neg h2, if_neg (by omega)]
theorem AH {place : Nat → Option (Nat × Nat)} {cells : Array Value} {i : Nat} {v : Value} {rest : List (Nat × Value)} {off size : Nat} (hp : place i = some (off, size)) (hv : v.cells.size = size) (hle : off + size ≤ cells.size) :
   Instr.fill place cells ((i, v) :: rest) = Instr.fill place (cN cells.toList off v.cells.toList).toArray rest := by
 have hf := zq off v.cells.toList 0 cells (by simp; omega); have e : (v.cells.zipIdx.foldl (fun cs (p : Value × Nat) => cs.setIfInBounds (off + p.2) p.1) cells) = (cN cells.toList off v.cells.toList).toArray := by
   apply Array.ext'; rw [← Array.foldl_toList, Array.toList_zipIdx]; simpa using hf
 conv => lhs; unfold Instr.fill
 simp only [hp]; rw [if_neg (by simp; omega)]; exact congrArg (fun cs => Instr.fill place cs rest) e
def pK (c : Cz) (st : St) (w : World) (ps : List (Nat × V)) (us : List (Nat × Value)) : Prop :=
 ps.length = us.length ∧ ∀ (i : Nat) p u, ps[i]? = some p → us[i]? = some u → p.1 = u.1 ∧ fY c st w p.2 u.2
theorem pK.cons {c : Cz} {st : St} {w : World} {p : Nat × V} {u : Nat × Value} {ps : List (Nat × V)} {us : List (Nat × Value)} (h : pK c st w (p :: ps) (u :: us)) :
   (p.1 = u.1 ∧ fY c st w p.2 u.2) ∧ pK c st w ps us :=
 ⟨h.2 0 p u rfl rfl, by have := h.1; simpa using this, fun i a b ha hb => h.2 (i + 1) a b (by simpa using ha) (by simpa using hb)⟩
theorem zr {w0 : World} {mu : Mu} {c : Cz} {st : St} {a : Act} {w : World} (h : Rel w0 mu c st a w) {r : RT} (hW : 0 < r.width) : (ps : List (Nat × V)) → (us : List (Nat × Value)) → pK c st w ps us →
   (i : Nat) → (k : List (aq r) → List (Nat × Nat) → N) → {bh : St} → (w8 st r i ps k).val = some bh → (cells : Array Value) → cells.size = (i + ps.length) * r.width →
   ∃ xs m, (k xs m).val = some bh ∧ xs.length = ps.length ∧ (∀ p ∈ m, ∃ g A, bl st p.1 p.2 g = some A) ∧
     ∃ vs : List Value, vs.length = ps.length * r.width ∧ Instr.fill (fun i => some (i * r.width, r.width)) cells us = some (cells.toList.take (i * r.width) ++ vs).toArray ∧
     ∀ ok : Nat → Prop, (∀ b, c.ok b → ok b) → (∀ p ∈ m, ∀ b, c.own b = some (.sp p.1 p.2) → ok b) → bB w ok r vs xs
 | [], us, hp, i, k, bh, hv, cells, mm => by
   have : us = [] := by have := hp.1; simp at this; exact List.length_eq_zero_iff.1 this.symm
   subst this; refine ⟨[], [], hv, rfl, fun p hp => by simp at hp, [], by simp, ?_, fun _ _ _ => rfl⟩; simp only [Instr.fill, List.append_nil]; simp at mm; rw [List.take_of_length_le (by simp; omega)]
 | (p, v) :: ps, us, hp, i, k, bh, hv, cells, mm => by
   cases us with
   | nil => have := hp.1; simp at this
   | cons u us =>
     obtain ⟨⟨Ri, V6⟩, j3⟩ := hp.cons; simp only [w8] at hv; obtain ⟨hc, hv⟩ := fl hv; rw [Bool.and_eq_true] at hc; have Sf := Nat.eq_of_beq_eq_true hc.2; obtain ⟨sy, _⟩ := V6.cells hc.1; obtain ⟨x, m1, h1, h2, h3⟩ := zi h r v.cells _ sy _ hv; have hlen : u.2.cells.toList.length = r.width := by
       have := h3 (fun _ => True) (fun _ _ => trivial) (fun _ _ _ _ => trivial); exact dD.length r _ x this
     simp only [List.length_cons] at mm; have hm1 : (i + (ps.length + 1)) * r.width = i * r.width + r.width + ps.length * r.width := by rw [Nat.add_mul, Nat.add_mul]; omega
     have hle : i * r.width + r.width ≤ cells.size := by omega
     have Hd := AH (place := fun i => some (i * r.width, r.width)) (cells := cells) (i := i) (v := u.2) (rest := us) rfl (by simpa using hlen) hle; obtain ⟨xs, m2, g1, g2, g3, vs, g4, g5, g6⟩ := zr h hW ps us j3 (i + 1) _ h1 (cN cells.toList (i * r.width) u.2.cells.toList).toArray (by
       rw [List.size_toArray, jj (by simp at hlen ⊢; omega)]; simp; rw [mm]; congr 1; omega)
     refine ⟨x :: xs, m1 ++ m2, g1, by simp [g2], fun q hq => ?_, u.2.cells.toList ++ vs, by simp at hlen ⊢; rw [hlen, g4, Nat.add_mul]; omega, ?_, fun ok ho hm => ⟨_, vs, rfl, h3 ok ho (fun q hq => hm q (by simp [hq])), g6 ok ho (fun q hq => hm q (by simp [hq]))⟩⟩
     · rcases List.mem_append.1 hq with hq | hq
       · exact h2 q hq
       · exact g3 q hq
     · have e : (u : Nat × Value) = (i, u.2) := by rw [← Sf]; simp at Ri; rw [Ri]
       rw [e, Hd, g5]
       congr 2
       rw [← List.append_assoc]
       congr 1
       show List.take ((i + 1) * r.width) (cN cells.toList (i * r.width) u.2.cells.toList) = _; unfold cN; rw [Nat.add_mul, Nat.one_mul]; rw [List.take_append_of_le_length (by simp at hlen ⊢; omega)]; rw [List.take_of_length_le (by simp at hlen ⊢; omega)]
theorem CY {P : Program} {T : lZ} (hT : gX P T) {w0 : World} {mu : Mu} {c : Cz} {st : St} {a : Act} {w : World} (h : Rel w0 mu c st a w)
   {d : Option Nat} {t len : Nat} {ps : List (Nat × V)} {us : Array (Nat × Value)} (hp : pK c st w ps us.toList) {bh : St} (hv : (vY T st d t len ps).val = some bh) (hd : ∀ k, d = some k → k < a.tmps.size) :
   ∃ v w', (Instr.buildSlice t len us).run P w = .ok v w' ∧ ji w w' ∧ ∃ c', Rel w0 mu c' bh (a.put d v) w' := by
 unfold vY at hv
 cases ht : T.elem t with
 | none => simp [ht, N.val] at hv
 | some p =>
   obtain ⟨r, bytes⟩ := p; simp only [ht] at hv; obtain ⟨hc, hv⟩ := fl hv; rw [Bool.and_eq_true] at hc; have hlen := Nat.eq_of_beq_eq_true hc.1; have acf := Nat.le_of_ble_eq_true hc.2; obtain ⟨e, i, z, hu, hi, mm, ED, W5, KA, hz, Lu⟩ := hT.elem t r bytes ht; have Hb : z.cells.size = r.width := by have := jy.length r _ Lu; simpa using this
   cases Ny : (bif T.dp t then IZ st r ps else none) with
   | some pq =>
     obtain ⟨x1, m⟩ := pq; rw [Ny] at hv; simp only at hv; obtain ⟨hdi, hv⟩ := fl hv; obtain ⟨k, s0, rfl, jb, rfl⟩ := nf hv; obtain ⟨_, Ny⟩ := aH Ny; unfold IZ at Ny
     split at Ny
     · -- no row
       simp only [Option.some.injEq, Prod.mk.injEq] at Ny; obtain ⟨rfl, rfl⟩ := Ny; have Ky : len = 0 := by simpa using hlen.symm
       subst Ky; have Jc : us = #[] := by have := hp.1; simp at this; exact Array.eq_empty_of_size_eq_zero this.symm
       subst Jc; have CZ : (Instr.buildSlice t 0 #[]).run P w = .ok (.slice (some ⟨w.heap.size, 0, none⟩) 0 0) (w.alloc (.cells #[] e (0, 0))) := by
         simp [Instr.buildSlice, run_underlying hu, sizeOf, typeInfo, hi, Instr.fill, newRow, show Array.range 0 = #[] from rfl]
       have M6 := h.Gc (r := r) (P := fun _ _ => False) (g := fun _ => []) (xs := []) (cur := #[]) (ty := e) (cap := 0) jb (hd k rfl) (by simp) (by simp) (vs := []) rfl (fun _ _ _ h => h.elim) rfl; exact ⟨_, _, CZ, ji.alloc _ _, M6⟩
     · rename_i i0 v0 _; obtain ⟨hc2, Lw⟩ := aH Ny; clear Ny; rw [Bool.and_eq_true] at hc2; obtain ⟨x2, ach, EE⟩ : ∃ x2, iO st r v0.cells = some (x2, m) ∧ x1 = [x2] := by
         cases hq : iO st r v0.cells with
         | none => rw [hq] at Lw; cases Lw
         | some q =>
           rw [hq] at Lw; simp only [Option.some.injEq, Prod.mk.injEq] at Lw; exact ⟨q.1, by rw [← Lw.2], Lw.1.symm⟩
       subst EE; have W9 := Nat.eq_of_beq_eq_true hc2.2; subst W9; obtain ⟨⟨i1, u1⟩, Jc⟩ : ∃ u1, us.toList = [u1] := by
         have := hp.1
         match hl : us.toList with
         | [] => rw [hl] at this; simp at this
         | [u1] => exact ⟨u1, rfl⟩
         | _ :: _ :: _ => rw [hl] at this; simp at this
       obtain ⟨Ri, V6⟩ := hp.2 0 (0, v0) (i1, u1) rfl (by rw [Jc]; rfl); simp only at Ri V6; subst Ri; obtain ⟨sy, Ga⟩ := V6.cells hc2.1; obtain ⟨R9, hmo, G, hG⟩ := CS h r v0.cells _ sy ach; have Lt := rG hdi; obtain ⟨CT, Ch, _, _, _⟩ := nG (jd m) h; have hR := CT.kQ Ch k 0; have Xa : len = 1 := by simpa using hlen.symm
       subst Xa; have hD := hG (fun p k => (∃ n ∈ jd m, c.own k = some (.sp n.1 n.2)) ∧ ∀ (col : Nat) (n : Nat × Nat), m[col]? = some (some n) → c.own k = some (.sp n.1 n.2) → p = [0] ++ [col] ++ G col k) [0] 0 (fun col n k hc hk => ⟨⟨n, mS hc, hk⟩, fun ab5 n' h1 h2 => by
         rw [hk] at h2; injection h2 with h2; injection h2 with q1 q2; have : n = n' := Prod.ext q1 q2; subst this; rw [um Lt h1 hc, Nat.zero_add]⟩)
       have Kz := eM.length r _ _ _ _ hD; obtain ⟨g', _, p2⟩ := E7 (c := c) Lt G (fun _ => []) [0] .out (fun n _ => by simp); have Hd := AH (place := fun i => some (i * r.width, r.width)) (cells := (Array.range (1 * r.width)).map (z.cells[· % z.cells.size]!)) (i := 0) (v := u1) (rest := []) rfl (by simpa using Kz) (by simp); have CZ : (Instr.buildSlice t 1 us).run P w = .ok (.slice (some ⟨w.heap.size, 0, none⟩) 1 1) (w.alloc (.cells u1.cells e (0, 0))) := by
         refine run_buildSlice (P := P) w t e 1 us u1.cells i z hu hi hz (by rw [mm]; omega) (by rw [mm]; intro h; rcases Nat.mul_eq_zero.1 h with h | h <;> omega) ?_; rw [Jc, mm, Hd]; simp only [Instr.fill]
         congr 1
         apply Array.ext'; show cN _ _ _ = _; unfold cN; rw [List.drop_eq_nil_of_le (by simp at Kz ⊢; omega)]; simp
       have M6 := hR.Gc (r := r) (xs := [x2]) (cur := u1.cells) (ty := e) (cap := 1) (g := g') jb (hd k rfl) (by simp) (by simp at Kz ⊢; omega) (vs := u1.cells.toList) ⟨_, [], by simp, hD, rfl⟩ (fun i q k hk => by
         obtain ⟨⟨n, hn, CT⟩, Ch⟩ := hk; obtain ⟨col, hc⟩ := xZ hn; refine ⟨Cz.pI hn CT, ?_⟩; rw [p2 col n k hc CT]; exact (Ch col n hc CT).symm) (List.take_length)
       exact ⟨_, _, CZ, ji.alloc _ _, M6⟩
     · cases Ny
   | none =>
   rw [Ny] at hv; simp only at hv; obtain ⟨xs, m, h1, h2, h3, vs, h4, h5, h6⟩ := zr h ED ps us.toList hp 0 _ hv ((Array.range (len * r.width)).map (z.cells[· % z.cells.size]!)) (by simp [hlen]); obtain ⟨k, s0, rfl, jb, rfl⟩ := nf h1; have zp : bB w (c.drop m).ok r vs xs := h6 _ (fun b hb => Cz.zh m c b hb) (fun p hp k hk => Cz.Co m c k hk hp); have hxl : xs.length = len := by rw [h2, hlen]
   have CZ : (Instr.buildSlice t len us).run P w = .ok (.slice (some ⟨w.heap.size, 0, none⟩) len len) (w.alloc (.cells vs.toArray e (0, 0))) := by
     simp only [Nat.zero_mul, List.take_zero, List.nil_append] at h5
     by_cases h0 : len = 0
     · subst h0; have PE : ps = [] := List.length_eq_zero_iff.1 hlen; subst PE; have Jc : us = #[] := by have := hp.1; simp at this; exact Array.eq_empty_of_size_eq_zero this.symm
       subst Jc; have zn : vs = [] := by simp at h4; exact h4
       subst zn; simp [Instr.buildSlice, run_underlying hu, sizeOf, typeInfo, hi, Instr.fill, newRow, show Array.range 0 = #[] from rfl]
     · refine run_buildSlice (P := P) w t e len us vs.toArray i z hu hi hz (by rw [mm]; omega) (by rw [mm]; intro h; rcases Nat.mul_eq_zero.1 h with h | h <;> omega) ?_; rw [mm]; exact h5
   have M6 := (h.freeze m).fresh (r := r) (xs := xs) (cur := vs.toArray) (ty := e) (cap := len) jb (hd k rfl) (by omega) (by simp [h4, hlen]) zp (by simp); rw [hxl] at M6; exact ⟨_, _, CZ, ji.alloc _ _, M6⟩
theorem jy.rel {c : Cz} {st : St} {w : World} : (r : RT) → (vs : List Value) → jy r vs → fX c st w ((eK r (th r)).map fun | .shr _ _ => .eI | c => c) vs
 | .nil, vs, h => by simp only [jy] at h; subst h; exact ⟨rfl, fun i x v hx => by simp [eK] at hx⟩
 | .cons t r, vs, h => by
   have key : ∃ v l x, vs = v :: l ∧ jy r l ∧ ((fun | .shr _ _ => .eI | c => c : CV → CV) (IW t (IV t))) = x ∧ kX c st w x v := by
     cases t with
     | int k => obtain ⟨l, h, h'⟩ := h; exact ⟨_, l, _, h, h', rfl, rfl⟩
     | bool => obtain ⟨l, h, h'⟩ := h; exact ⟨_, l, _, h, h', rfl, rfl⟩
     | str => obtain ⟨l, h, h'⟩ := h; exact ⟨_, l, _, h, h', rfl, rfl⟩
     | sl q => obtain ⟨l, h, h'⟩ := h; exact ⟨_, l, _, h, h', rfl, rfl⟩
   obtain ⟨v, l, x, rfl, hl, hx, hr⟩ := key; obtain ⟨h1, h2⟩ := jy.rel (c := c) (st := st) (w := w) r l hl; refine ⟨by simp [eK] at h1 ⊢; exact h1, fun i y u hy hu => ?_⟩
   cases i with
   | zero =>
     simp [eK, th] at hy hu; subst hu; rw [← hy]; have : (match IW t (IV t) with | .shr _ _ => CV.eI | c => c) = x := hx; rw [this]; exact hr
   | succ i => exact h2 i y u (by simpa [eK, th] using hy) (by simpa using hu)
theorem wj {c : Cz} {st : St} {w : World} {r : RT} {vs : List Value} (h : jy r vs) : fX c st w (oH r) vs := jy.rel r vs h
theorem zt {P : Program} {T : lZ} {c : Cz} {st : St} {w : World} {t : Nat} {cm : List (Nat × Nat)} (PF : ∀ f o s, T.off t f = some o → T.WQ t f = some s → cm[f]? = some (o, s)) :
   (ps : List (Nat × V)) → (us : List (Nat × Value)) → pK c st w ps us → (cs l : List CV) → (cells : Array Value) → fX c st w cs cells.toList → oJ T t cs ps = some l →
   ∃ tY, Instr.fill (cm.toArray[·]?) cells us = some tY ∧ fX c st w l tY.toList
 | [], us, hp, cs, l, cells, hl, h => by
   have : us = [] := by have := hp.1; simp at this; exact List.length_eq_zero_iff.1 this.symm
   subst this; simp only [oJ, Option.some.injEq] at h; subst h; exact ⟨cells, rfl, hl⟩
 | (f, v) :: ps, us, hp, cs, l, cells, hl, h => by
   cases us with
   | nil => have := hp.1; simp at this
   | cons u us =>
     obtain ⟨⟨Ri, V6⟩, j3⟩ := hp.cons; simp only [oJ] at h
     cases ho : T.off t f with
     | none => simp [ho] at h
     | some o =>
       cases hs : T.WQ t f with
       | none => simp [ho, hs] at h
       | some s =>
         simp only [ho, hs] at h; obtain ⟨hc, h⟩ := aH h; rw [Bool.and_eq_true] at hc; obtain ⟨sy, _⟩ := V6.cells hc.1; have hlen : v.cells.length = s := Nat.eq_of_beq_eq_true hc.2
         cases hpc : putCells cs o v.cells with
         | none => simp [hpc] at h
         | some ow =>
           simp only [hpc] at h; obtain ⟨hle, rfl⟩ := xH hpc; have h1 := hl.1; have h2 := sy.1; have Hd := AH (place := (cm.toArray[·]?)) (cells := cells) (i := f) (v := u.2) (rest := us) (off := o) (size := s) (by simpa using PF f o s ho hs) (by simp at h2; omega) (by simp at h1 h2; omega); obtain ⟨tY, g1, g2⟩ := zt (P := P) PF ps us j3 _ l (cN cells.toList o u.2.cells.toList).toArray (by simpa using hl.cN sy o hle) h; refine ⟨tY, ?_, g2⟩; have e : (u : Nat × Value) = (f, u.2) := by simp at Ri; rw [Ri]
           rw [e, Hd]; exact g1
theorem Nz {P : Program} {T : lZ} (hT : gX P T) {w0 : World} {mu : Mu} {c : Cz} {st : St} {a : Act} {w : World} (h : Rel w0 mu c st a w)
   {d : Option Nat} {t : Nat} {r : RT} {ps : List (Nat × V)} {us : Array (Nat × Value)} {l : List CV} (hr : T.row t = some r) (hg : T.agg t = true) (hp : pK c st w ps us.toList)
   (hf : oJ T t (oH r) ps = some l) (hd : ∀ k, d = some k → k < a.tmps.size) :
   ∃ v, (∀ w' : World, (Instr.build t us).run P w' = .ok v w') ∧ Rel w0 mu c (bj st d (.agg l)) (a.put d v) w := by
 obtain ⟨i, z, hi, hz, Lu⟩ := hT.row t r hr; obtain ⟨fs, cm, hu, PF, hpo⟩ := hT.bld t hg; obtain ⟨tY, g1, g2⟩ := zt (P := P) (c := c) (st := st) (w := w) hpo ps us.toList hp (oH r) l z.cells (wj Lu) hf; refine ⟨.agg tY, fun w' => run_build w' t us tY ?_, h.bj ⟨tY, rfl, g2⟩ hd⟩; unfold Program.built; simp only [hi, hu, hz, PF]; exact g1
end Go.TM
namespace Go.TM
open Go Go.RowKit
theorem NA {P : Program} {w : World} {op : BinOp} {t : TypeId} {k : IntKind} {a b : Int} {r : Bool} (h : Ng op a b = some r) :
   (binOp op t (.int k a) (.int k b)).run P w = .ok (.bool r) w := by
 cases op <;> simp only [Ng, Option.some.injEq, reduceCtorEq] at h <;> subst h <;> unfold binOp Op.intCmp <;> simp <;> rfl
theorem Jd {P : Program} {w : World} {op : BinOp} {t : TypeId} {k : IntKind} {a b n : Int} (h : CD op k a b = some n) :
   (binOp op t (.int k a) (.int k b)).run P w = .ok (.int k n) w := by
 cases op <;> simp [CD] at h <;> subst h <;> simp [binOp, Op.intArith, Op.intBits]
theorem NB {P : Program} {w : World} {op : BinOp} {t : TypeId} {k : IntKind} {a b n : Int} (h : Nh op k a b = some n) (hb : b ≠ 0) :
   (binOp op t (.int k a) (.int k b)).run P w = .ok (.int k n) w := by
 cases op <;> simp [Nh] at h <;> subst h <;> simp [binOp, Op.intDiv, hb]
theorem Je {P : Program} {w : World} {op : BinOp} {t : TypeId} {k l : IntKind} {a b n : Int} (h : CE op k a b.toNat = some n) (hb : 0 ≤ b) :
   (binOp op t (.int k a) (.int l b)).run P w = .ok (.int k n) w := by
 have mo : ¬ b < 0 := by omega
 cases op <;> simp [CE] at h <;> subst h <;> simp [binOp, Op.shift, mo]
theorem mr {P : Program} {w : World} (op : BinOp) (t : TypeId) (x y : Operand) (a b : Value) (h : ¬ (a = .nilIface ∧ b = .nilIface)) (h2 : ∀ l m, ¬ (a = .agg l ∧ b = .agg m)) :
   (eqGuard op t x y a b).run P w = .ok () w := by
 unfold eqGuard
 cases op <;> cases a <;> cases b <;> simp_all
theorem PG {P : Program} {T : lZ} (hT : gX P T) {w0 : World} {mu : Mu} {c : Cz} {st : St} {a : Act} {w : World} (h : Rel w0 mu c st a w) (hE : ∀ t, T.eq t = true → ∀ (l m : List CV) (us vs : Array Value) (b : Bool) (op : BinOp) (ox oy : Operand), T.fits t l = true → nE l m = some b →
     fX c st w l us.toList → fX c st w m vs.toList → ∀ w' : World, (eqGuard op t ox oy (.agg us) (.agg vs)).run P w' = .ok () w' ∧ (Op.equal t (.agg us) (.agg vs)).run P w' = .ok b w')
   {d : Option Nat} {t : Nat} {op : BinOp} {ox oy : Operand} {x y : V} {ux uy : Value} (hx : fY c st w x ux) (hy : fY c st w y uy) {bh : St} (hv : (vO T st d op t x y).val = some bh) (hd : ∀ k, d = some k → k < a.tmps.size) :
   ∃ v, (∀ w' : World, (do eqGuard op t ox oy ux uy; binOp op t ux uy : Sem Value).run P w' = .ok v w') ∧ Rel w0 mu c bh (a.put d v) w := by
 have fin : ∀ (cv : CV) (v : Value), kX c st w cv v → (N.done (bj st d (.one cv))).val = some bh → (∀ w' : World, (eqGuard op t ox oy ux uy).run P w' = .ok () w') → (∀ w' : World, (binOp op t ux uy).run P w' = .ok v w') →
     ∃ v, (∀ w' : World, (do eqGuard op t ox oy ux uy; binOp op t ux uy : Sem Value).run P w' = .ok v w') ∧ Rel w0 mu c bh (a.put d v) w := by
   intro cv v hr s3 hg hb; simp only [N.val, Option.some.injEq] at s3; subst s3; refine ⟨v, fun w' => ?_, h.bj hr hd⟩; simp [Sem.run_bind, hg, hb]
 cases x with
 | ot _ => simp [vO, N.val] at hv
 | agg l => cases y with
   | ot _ => simp [vO, N.val] at hv
   | one _ => simp [vO, N.val] at hv
   | agg m =>
     obtain ⟨us, rfl, hl⟩ := hx; obtain ⟨vs, rfl, hm⟩ := hy; simp only [vO] at hv; obtain ⟨ht, hv⟩ := fl hv; rw [Bool.and_eq_true] at ht; obtain ⟨ht, sy⟩ := ht
     cases hc : nE l m with
     | none => cases op <;> simp [hc, N.val] at hv
     | some b =>
       have g := hE t ht l m us vs b op ox oy sy hc hl hm
       cases op <;> simp only [hc] at hv <;> try (simp [N.val] at hv; done)
       · exact fin (.bool b) (.bool b) rfl hv (fun w' => (g w').1) (fun w' => by simp [binOp, Sem.run_bind, (g w').2])
       · exact fin (.bool (!b)) (.bool (!b)) rfl hv (fun w' => (g w').1) (fun w' => by simp [binOp, Sem.run_bind, (g w').2])
 | one cx => cases y with
   | ot _ => cases cx <;> simp [vO, N.val] at hv
   | agg _ => cases cx <;> simp [vO, N.val] at hv
   | one cy =>
     cases cx <;> cases cy <;> try (simp [vO, N.val] at hv; done)
     · rename_i k p l q; have e1 : ux = .int k p := hx; have e2 : uy = .int l q := hy; subst e1 e2; have hg := fun w' => mr (P := P) (w := w') op t ox oy (.int k p) (.int l q) (by simp) (by simp)
       simp only [vO] at hv
       by_cases hs : op = .shl ∨ op = .shr
       · have oz : (match CE op k p q.toNat with | some n => N.br (decide (0 ≤ q)) (.done (bj st d (.one (.int k n)))) .fail | none => .fail).val = some bh := by
           rcases hs with rfl | rfl <;> exact hv
         cases V7 : CE op k p q.toNat with
         | none => simp [V7, N.val] at oz
         | some n =>
           simp only [V7] at oz; obtain ⟨hq, oz⟩ := fZ oz; exact fin (.int k n) (.int k n) rfl oz hg (fun _ => Je V7 (of_decide_eq_true hq))
       · have oz : (if k = l then (match Ng op p q with
             | some t => N.done (bj st d (.one (.bool t)))
             | none => match CD op k p q with
               | some n => .done (bj st d (.one (.int k n)))
               | none => match Nh op k p q with
                 | some n => .br (decide (q = 0)) .fail (.done (bj st d (.one (.int k n))))
                 | none => .fail) else .fail).val = some bh := by
           cases op <;> first | exact hv | exact absurd (.inl rfl) hs | exact absurd (.inr rfl) hs
         by_cases hk : k = l
         · subst hk; rw [if_pos rfl] at oz
           cases hc : Ng op p q with
           | some r => simp only [hc] at oz; exact fin (.bool r) (.bool r) rfl oz hg (fun _ => NA hc)
           | none =>
             simp only [hc] at oz
             cases ha : CD op k p q with
             | some n => simp only [ha] at oz; exact fin (.int k n) (.int k n) rfl oz hg (fun _ => Jd ha)
             | none =>
               simp only [ha] at oz
               cases Xb : Nh op k p q with
               | none => simp [Xb, N.val] at oz
               | some n =>
                 simp only [Xb] at oz; rcases wh oz with ⟨_, oz⟩ | ⟨hq, oz⟩
                 · simp [N.val] at oz
                 · exact fin (.int k n) (.int k n) rfl oz hg (fun _ => NB Xb (of_decide_eq_false hq))
         · rw [if_neg hk] at oz; simp [N.val] at oz
     · rename_i p q; have e1 : ux = .bool p := hx; have e2 : uy = .bool q := hy; subst e1 e2; have hg := fun w' => mr (P := P) (w := w') op t ox oy (.bool p) (.bool q) (by simp) (by simp)
       have hq : ∀ u, P.underlying t = some u → u = .bool → ∀ w' : World, (Op.equal t (.bool p) (.bool q)).run P w' = .ok (p == q) w' := by
         rintro u hu rfl w'
         have e : Op.equal t (.bool p) (.bool q) = Op.equalIn ((Op.maxDepth - 1) + 1) t (.bool p) (.bool q) := rfl; rw [e]; simp only [Op.equalIn]; simp [run_underlying hu]
       cases hk : T.kind t with
       | none => cases op <;> simp [vO, hk, N.val] at hv
       | some ty => cases ty with
         | int _ => cases op <;> simp [vO, hk, N.val] at hv
         | str => cases op <;> simp [vO, hk, N.val] at hv
         | sl _ => cases op <;> simp [vO, hk, N.val] at hv
         | bool =>
           obtain ⟨u, hu, hud⟩ := hT.kind t .bool hk; have := hq u hu hud
           cases op <;> simp only [vO, hk] at hv <;> try (simp [N.val] at hv; done)
           · exact fin (.bool (p == q)) (.bool (p == q)) rfl hv hg (fun w' => by simp [binOp, this w'])
           · exact fin (.bool (!(p == q))) (.bool (!(p == q))) rfl hv hg (fun w' => by simp [binOp, this w'])
     · rename_i p q; have e1 : ux = .string p := hx; have e2 : uy = .string q := hy; subst e1 e2; have hg := fun w' => mr (P := P) (w := w') op t ox oy (.string p) (.string q) (by simp) (by simp)
       simp only [vO] at hv
       cases op <;> simp only at hv <;> try (simp [N.val] at hv; done)
       · obtain ⟨hb, hv⟩ := fZ hv; have hb := Nat.le_of_ble_eq_true hb; unfold lim at hb; refine fin (.str (p ++ q)) (.string (p ++ q)) rfl hv hg (fun w' => ?_); have : ¬ ((p.size + q.size : Nat) : Int) > IntKind.i64.max := by
           have : IntKind.i64.max = 9223372036854775807 := by decide
           omega
         simp only [binOp, Op.stringOp]; rw [if_neg this]; rfl
       · exact fin (.bool (pE p q)) (.bool (pE p q)) rfl hv hg (fun w' => by simp [binOp, Op.stringOp, pE])
       · exact fin (.bool (!pE p q)) (.bool (!pE p q)) rfl hv hg (fun w' => by simp [binOp, Op.stringOp, pE])
     · have e1 : ux = .slice none 0 0 := hx; have e2 : uy = .slice none 0 0 := hy; subst e1 e2; have hg := fun w' => mr (P := P) (w := w') op t ox oy (.slice none 0 0) (.slice none 0 0) (by simp) (by simp)
       simp only [vO] at hv
       cases he : T.elem t with
       | none => cases op <;> simp [he, N.val] at hv
       | some p =>
         obtain ⟨e, i, z, hu, _⟩ := hT.elem t p.1 p.2 he; have hq := fun w' => run_equal_slice_nil (P := P) w' t e none 0 0 hu
         cases op <;> simp only [he] at hv <;> try (simp [N.val] at hv; done)
         · exact fin (.bool true) (.bool true) rfl hv hg (fun w' => by simp [binOp, hq w'])
         · exact fin (.bool false) (.bool false) rfl hv hg (fun w' => by simp [binOp, hq w'])
     · rename_i r xs; have e2 : uy = .slice none 0 0 := hy; subst e2; obtain ⟨h1, h2⟩ := hx; rcases (oE _ _ _ _ _).1 h1 with ⟨h3, _⟩ | ⟨a0, cap, h3, _⟩
       · exact absurd h3 h2
       · subst h3; have hg := fun w' => mr (P := P) (w := w') op t ox oy (.slice (some a0) (List.length xs) cap) (.slice none 0 0) (by simp) (by simp)
         simp only [vO] at hv
         cases he : T.elem t with
         | none => cases op <;> simp [he, N.val] at hv
         | some p =>
           obtain ⟨e, i, z, hu, _⟩ := hT.elem t p.1 p.2 he; have hq := fun w' => run_equal_slice_nil (P := P) w' t e (some a0) (List.length xs) cap hu
           cases op <;> simp only [he] at hv <;> try (simp [N.val] at hv; done)
           · exact fin (.bool false) (.bool false) rfl hv hg (fun w' => by simp [binOp, hq w'])
           · exact fin (.bool true) (.bool true) rfl hv hg (fun w' => by simp [binOp, hq w'])
theorem KC {P : Program} {T : lZ} (hT : gX P T) {t : Nat} (h : T.kind t = some .str) : P.underlying t = some .string := by
 obtain ⟨u, hu, hd⟩ := hT.kind t .str h; simp only [descOf] at hd; rw [hu, hd]
theorem He {w0 : World} {mu : Mu} {c : Cz} {st : St} {a : Act} {w : World} (_h : Rel w0 mu c st a w) {a' j g : Nat} {vw : View} {A : iN} {u : Value} (hA : bl st a' j g = some A)
   (hu : kX c st w (.ref a' j g vw) u) : ∃ ad k, u = .slice ad (vw.app A.xs).length k := by
 have hs := hu.2.2 A hA
 cases hl : c.lc a' j with
 | nil => unfold jJ at hs; rw [hl] at hs; exact ⟨none, 0, by rw [hs.2]; exact hs.1⟩
 | «at» b off cap => unfold jJ at hs; rw [hl] at hs; obtain ⟨ad, k, h1, _⟩ := hs; exact ⟨some ad, k, h1⟩
theorem PH {P : Program} {T : lZ} (hT : gX P T) {w0 : World} {mu : Mu} {c : Cz} {st : St} {a : Act} {w : World} (h : Rel w0 mu c st a w)
   {d : Option Nat} {t ty : Nat} {x : V} {ux : Value} (hx : fY c st w x ux) {bh : St} (hv : (FZ T st d t x).val = some bh) (hd : ∀ k, d = some k → k < a.tmps.size) :
   ∃ v, (∀ w' : World, (Builtin.len_ #[t] ty #[ux]).run P w' = .ok v w') ∧ Rel w0 mu c bh (a.put d v) w := by
 have sl : ∀ (n : Nat) (ad : Option Addr) (k : Nat), (T.elem t).isSome = true → ux = .slice ad n k → (N.done (bj st d (.one (.int .i64 n)))).val = some bh →
     ∃ v, (∀ w' : World, (Builtin.len_ #[t] ty #[ux]).run P w' = .ok v w') ∧ Rel w0 mu c bh (a.put d v) w := by
   intro n ad k he hu s3; simp only [N.val, Option.some.injEq] at s3; subst s3
   cases hq : T.elem t with
   | none => simp [hq] at he
   | some p =>
     obtain ⟨r, b⟩ := p; obtain ⟨e, _, _, Pj, _⟩ := hT.elem t r b hq; subst hu; exact ⟨.int .i64 n, (fun w' => by simp [Builtin.len_, run_underlying Pj, goInt]), h.bj (u := .int .i64 n) rfl hd⟩
 cases x with
 | agg _ => simp [FZ, N.val] at hv
 | ot _ => simp [FZ, N.val] at hv
 | one cx => cases cx with
   | str s =>
     simp only [FZ] at hv
     cases hk : T.kind t with
     | none => simp [hk, N.val] at hv
     | some y => cases y with
       | str =>
         simp only [hk, N.val, Option.some.injEq] at hv; subst hv; have e : ux = .string s := hx; subst e; exact ⟨.int .i64 s.size, (fun w' => by simp [Builtin.len_, run_underlying (KC hT hk), goInt]), h.bj (u := .int .i64 s.size) rfl hd⟩
       | _ => simp [hk, N.val] at hv
   | eI =>
     simp only [FZ] at hv
     cases hk : T.elem t with
     | none => simp [hk, N.val] at hv
     | some p => simp only [hk] at hv; exact sl 0 none 0 (by simp [hk]) hx hv
   | shr r xs =>
     simp only [FZ] at hv
     cases hk : T.elem t with
     | none => simp [hk, N.val] at hv
     | some p =>
       simp only [hk] at hv; rcases (oE _ _ _ _ _).1 hx with ⟨h1, h2⟩ | ⟨ad, k, h1, _⟩
       · exact sl xs.length none 0 (by simp [hk]) (by rw [h1, h2]; rfl) hv
       · exact sl xs.length (some ad) k (by simp [hk]) h1 hv
   | ref a' j g vw =>
     simp only [FZ] at hv
     cases hk : T.elem t with
     | none => simp [hk, N.val] at hv
     | some p =>
       cases hA : bl st a' j g with
       | none => simp [hk, hA, N.val] at hv
       | some A =>
         simp only [hk, hA] at hv; obtain ⟨ad, k, hu⟩ := He h hA hx; exact sl _ ad k (by simp [hk]) hu hv
   | _ => simp [FZ, N.val] at hv
theorem Bx {P : Program} {t e : TypeId} {i : TypeInfo} (hu : P.underlying t = some (.slice e)) (hi : P.info? e = some i) (w : World) (k : IntKind) (a : Addr) (n c : Nat) (j : Int) (h0 : 0 ≤ j) (hj : j < n) :
   (Instr.indexAt t (.slice (some a) n c) (.int k j)).run P w = .ok (.pointer (some (a.add (j.toNat * i.size)))) w := by
 simp [Instr.indexAt, asIntOf, run_underlying hu, sizeOf, typeInfo, hi, h0, hj]
theorem Lx {P : Program} {T : lZ} (hT : gX P T) {w0 : World} {mu : Mu} {c : Cz} {st : St} {a : Act} {w : World} (h : Rel w0 mu c st a w)
   {d : Option Nat} {t : Nat} {x y : V} {ux uy : Value} (hx : fY c st w x ux) (hy : fY c st w y uy) {bh : St} (hv : (qh T st d t x y).val = some bh) (hd : ∀ k, d = some k → k < a.tmps.size) :
   ∃ v, (∀ w' : World, (Instr.indexAt t ux uy).run P w' = .ok v w') ∧ Rel w0 mu c bh (a.put d v) w := by
 cases ht : T.elem t with
 | none => simp [qh, ht, N.val] at hv
 | some p =>
   obtain ⟨q, bytes⟩ := p; obtain ⟨e, i, z, hu, hi, mm, ED, _, _, _, _⟩ := hT.elem t q bytes ht; have rd : ∀ (ys : List (aq q)) (k : IntKind) (j : Int), uy = .int k j → cw w c.ok (.sl q) ux ys → (N.br (decide (0 ≤ j)) (.row q ys[j.toNat]? fun y => .done (bj st d (.one (.mH q y 0)))) .fail).val = some bh →
       ∃ v, (∀ w' : World, (Instr.indexAt t ux uy).run P w' = .ok v w') ∧ Rel w0 mu c bh (a.put d v) w := by
     intro ys k j huy G4 hv; obtain ⟨hj, hv⟩ := fZ hv; have hj := of_decide_eq_true hj
     cases hr : ys[j.toNat]? with
     | none => simp [hr, N.val] at hv
     | some y =>
       simp only [hr] at hv; change some _ = some bh at hv; obtain rfl := Option.some.inj hv; have dm : j.toNat < ys.length := (List.getElem?_eq_some_iff.1 hr).1; rcases (oE _ _ _ _ _).1 G4 with ⟨_, h2⟩ | ⟨ad, cap, h1, h2, h3, h4⟩
       · rw [h2] at dm; simp at dm
       · subst h1 huy; have gW : ys ≠ [] := by intro e; rw [e] at dm; simp at dm
         obtain ⟨g1, g2, g3⟩ := h3 gW; refine ⟨_, (fun w' => Bx hu hi w' k ad ys.length cap j hj (by omega)), h.bj (v := .one (.mH q y 0)) ?_ hd⟩; have G0 : ad = ⟨ad.block, ad.off, none⟩ := by cases ad; simp at g1 ⊢; exact g1
         refine ⟨ad.block, ad.off + j.toNat * q.width, ?_, g2, g3, h4 _ y hr⟩; rw [G0, Addr.add_mid, mm]; rfl
   cases x with
   | agg _ => cases y <;> simp [qh, ht, N.val] at hv
   | ot _ => cases y <;> simp [qh, ht, N.val] at hv
   | one cx => cases y with
     | agg _ => cases cx <;> simp [qh, ht, N.val] at hv
     | ot _ => cases cx <;> simp [qh, ht, N.val] at hv
     | one cy => cases cx with
       | shr r xs => cases cy with
         | int k j =>
           simp only [qh, ht] at hv
           cases hc : ck q xs with
           | none => simp [hc, N.val] at hv
           | some ys =>
             simp only [hc] at hv; obtain ⟨rfl, rfl⟩ := bA hc; exact rd _ k j hy hx hv
         | _ => simp [qh, ht, N.val] at hv
       | ref a' j g vw => cases cy with
         | int k n =>
           simp only [qh, ht] at hv
           cases hA : bl st a' j g with
           | none => simp [hA, N.val] at hv
           | some A =>
             simp only [hA] at hv
             cases hc : ck q A.xs with
             | none => simp [hc, N.val] at hv
             | some ys =>
               simp only [hc] at hv; obtain ⟨e', he⟩ := bA hc; subst e'; simp only at he; subst he; obtain ⟨sl, Ev, Pe, Ew⟩ := bN hA; have G5 := h.aP a' j sl A Ev Ew
               cases ho : A.own with
               | false =>
                 simp only [ho] at hv; have xY : A.md = .sh := by
                   cases hm : A.md with
                   | sh => rfl
                   | dp => rw [hm] at hv; simp [Md.is, N.val] at hv
                   | ho => rw [hm] at hv; simp [Md.is, N.val] at hv
                 rw [xY] at hv; simp only [Md.is, Bool.not_true, cond_false] at hv; refine rd _ k n hy ?_ hv; refine CM G5 (hx.2.2 A hA) (fun _ h => h) (fun b hq _ => ?_) (by rw [xY]; simp); rw [ho, xY] at hq; rcases hq with hq | hq <;> cases hq
               | true =>
                 simp only [ho] at hv; obtain ⟨hn, hv⟩ := fZ hv; obtain ⟨dm, hv⟩ := fZ hv; have hn := of_decide_eq_true hn; have dm : n.toNat < (vw.app A.xs).length := by simp [Nat.blt] at dm; omega
                 simp only [N.val, Option.some.injEq] at hv; subst hv; have hs := hx.2.2 A hA; have euy : uy = .int k n := hy; subst euy
                 cases hl : c.lc a' j with
                 | nil => unfold jJ at hs; rw [hl] at hs; omega
                 | «at» b off cap =>
                   unfold jJ at hs; rw [hl] at hs; obtain ⟨ad, cc, rfl, hcc, zg, G0⟩ := hs; have hc0 : cc ≠ 0 := by omega
                   refine ⟨_, (fun w' => Bx hu hi w' k ad _ cc n hn (by omega)), h.bj (v := .one (.Li a' j g _ 0)) ?_ hd⟩; have acj : vw.idx n.toNat = vw.lo + n.toNat := by cases vw <;> simp [View.lo, View.idx]
                   rw [acj]; have Hf : A.xs[vw.lo + n.toNat]? = some (vw.app A.xs)[n.toNat] := View.w9 vw A.xs (List.getElem?_eq_getElem dm); refine ⟨rfl, hx.2.1, fun A2 Jf => ?_⟩; rw [hA] at Jf; obtain rfl := Option.some.inj Jf; refine ⟨(List.getElem?_eq_some_iff.1 Hf).1, b, off, cap, hl, ?_⟩; rw [G0 hc0, Addr.add_mid, mm, Nat.add_mul]; simp only [Nat.add_zero]; rw [Nat.add_assoc]
         | _ => simp [qh, ht, N.val] at hv
       | _ => cases cy <;> simp [qh, ht, N.val] at hv
end Go.TM
namespace Go.TM
open Go Go.RowKit
def Hg (c : Cz) (st : St) (w : World) : Option V → Option Value → Prop
 | none, u => u = none
 | some v, u => ∃ x, u = some x ∧ fY c st w v x
def Bd (o : Option Value) (l : Option Nat) : Prop :=
 match l with
 | none => o = none
 | some l => ∃ k, o = some (.int k l)
theorem pc {c : Cz} {st : St} {w : World} {n : Nat} {lo hi : Option V} {ul uh : Option Value} (hl : Hg c st w lo ul) (hh : Hg c st w hi uh) {k : Option Nat → Option Nat → N} {bh : St}
   (hv : (oI n lo hi k).val = some bh) : ∃ l h, (k l h).val = some bh ∧ Bd ul l ∧ Bd uh h ∧ l.getD 0 ≤ h.getD n ∧ h.getD n ≤ n := by
 unfold oI at hv; simp only at hv; have hiC : ∀ (l : Option Nat), (hi = none → l.getD 0 ≤ n) → (match hi with
     | none => k l none
     | some (.one (.int _ h)) => .br (decide ((match l with | some l => (l : Int) | none => 0) ≤ h)) (.br (decide (h ≤ n)) (k l (some h.toNat)) .fail) .fail
     | _ => .fail).val = some bh → ∃ h, (k l h).val = some bh ∧ Bd uh h ∧ l.getD 0 ≤ h.getD n ∧ h.getD n ≤ n := by
   intro l hln hv
   cases hi with
   | none => exact ⟨none, hv, hh, hln rfl, Nat.le_refl _⟩
   | some v => cases v with
     | agg _ => simp [N.val] at hv
     | ot _ => simp [N.val] at hv
     | one x => cases x with
       | int q h =>
         simp only at hv; obtain ⟨h1, hv⟩ := fZ hv; obtain ⟨h2, hv⟩ := fZ hv; have h1 := of_decide_eq_true h1; have h2 := of_decide_eq_true h2; obtain ⟨x, rfl, hx⟩ := hh; have e : x = .int q h := hx; subst e; have h0 : 0 ≤ h := by cases l <;> simp at h1 <;> omega
         refine ⟨some h.toNat, hv, ⟨q, by rw [Int.toNat_of_nonneg h0]⟩, ?_, by simp; omega⟩
         cases l <;> simp at h1 ⊢; omega
       | _ => simp [N.val] at hv
 cases lo with
 | none =>
   obtain ⟨h, g1, g2, g3, g4⟩ := hiC none (fun _ => Nat.zero_le _) hv; exact ⟨none, h, g1, hl, g2, g3, g4⟩
 | some v => cases v with
   | agg _ => simp [N.val] at hv
   | ot _ => simp [N.val] at hv
   | one x => cases x with
     | int q l =>
       simp only at hv; obtain ⟨h1, hv⟩ := fZ hv; have h1 := of_decide_eq_true h1; obtain ⟨x, rfl, hx⟩ := hl; have e : x = .int q l := hx; subst e; have hb : Bd (some (.int q l)) (some l.toNat) := ⟨q, by rw [Int.toNat_of_nonneg h1]⟩
       cases hi with
       | none =>
         simp only at hv; obtain ⟨h2, hv⟩ := fZ hv; have h2 := of_decide_eq_true h2; obtain ⟨h, g1, g2, g3, g4⟩ := hiC (some l.toNat) (fun _ => by simp; omega) hv; exact ⟨some l.toNat, h, g1, hb, g2, g3, g4⟩
       | some v =>
         obtain ⟨h, g1, g2, g3, g4⟩ := hiC (some l.toNat) (fun e => by cases e) hv; exact ⟨some l.toNat, h, g1, hb, g2, g3, g4⟩
     | _ => simp [N.val] at hv
theorem C0 {P : Program} {w : World} {n cap : Nat} {ul uh : Option Value} {l h : Option Nat} (b : Bool) (hl : Bd ul l) (hh : Bd uh h) (h1 : l.getD 0 ≤ h.getD n) (h2 : h.getD n ≤ n) (hc : n ≤ cap) :
   (Instr.sliceBounds b n cap ul uh none).run P w = .ok (l.getD 0, h.getD n, cap) w := by
 have key : ∀ (q : IntKind) (y m : Nat) (code : BoundsCode), y ≤ m → (Instr.sliceBound (.int q y) m code).run P w = .ok y w := by
   intro q y m code hy; simp [Instr.sliceBound, asIntOf, hy]
 cases l with
 | none =>
   simp only [Bd] at hl; subst hl
   cases h with
   | none =>
     simp only [Bd] at hh; subst hh; simp [Instr.sliceBounds]
   | some h =>
     obtain ⟨q, rfl⟩ := hh; simp at h2; simp [Instr.sliceBounds, key q h cap _ (by omega)]
 | some l =>
   obtain ⟨q, rfl⟩ := hl
   cases h with
   | none =>
     simp only [Bd] at hh; subst hh; simp at h1; simp [Instr.sliceBounds, key q l n _ h1]
   | some h =>
     obtain ⟨q', rfl⟩ := hh; simp at h1 h2; simp [Instr.sliceBounds, key q' h cap _ (by omega), key q l h _ h1]
theorem View.KD {α : Type} (w : View) (xs : List α) (l h : Option Nat) (h1 : l.getD 0 ≤ h.getD (w.app xs).length) (h2 : h.getD (w.app xs).length ≤ (w.app xs).length) :
   (w.of (w.app xs).length l h).lo = w.lo + l.getD 0 ∧ ((w.of (w.app xs).length l h).app xs).length = h.getD (w.app xs).length - l.getD 0 := by
 cases w with
 | full => cases l <;> cases h <;> simp [View.of, View.lo, View.app] at h1 h2 ⊢ <;> omega
 | «from» a => cases l <;> cases h <;> simp [View.of, View.lo, View.app] at h1 h2 ⊢ <;> omega
 | sub a m => cases l <;> cases h <;> simp [View.of, View.lo, View.app] at h1 h2 ⊢ <;> omega
theorem Ly (n : Nat) (l h : Option Nat) : IY n l h = View.full.of n l h := by
 cases l <;> cases h <;> simp [IY, View.of, View.lo]
theorem pL {P : Program} {t e : TypeId} {i : TypeInfo} (hu : P.underlying t = some (.slice e)) (hi : P.info? e = some i) {w : World} {a : Option Addr} {n cap : Nat} {ul uh : Option Value} {l h : Option Nat}
   (hl : Bd ul l) (hh : Bd uh h) (h1 : l.getD 0 ≤ h.getD n) (h2 : h.getD n ≤ n) (hc : n ≤ cap) :
   (Instr.sliceAt t (.slice a n cap) ul uh none).run P w = .ok (.slice (if cap = l.getD 0 then a else a.map (·.add (l.getD 0 * i.size))) (h.getD n - l.getD 0) (cap - l.getD 0)) w := by
 have hb := C0 (P := P) (w := w) true hl hh h1 h2 hc; simp [Instr.sliceAt, Instr.slice, run_underlying hu, sizeOf, typeInfo, hi, hb]
theorem LA {P : Program} {T : lZ} (hT : gX P T) {w0 : World} {mu : Mu} {c : Cz} {st : St} {a : Act} {w : World} (h : Rel w0 mu c st a w)
   {d : Option Nat} {t : Nat} {x : V} {ux : Value} {lo hi : Option V} {ul uh : Option Value} (hx : fY c st w x ux) (hl : Hg c st w lo ul) (hh : Hg c st w hi uh) {bh : St}
   (hv : (ua T st d t x lo hi).val = some bh) (hd : ∀ k, d = some k → k < a.tmps.size) :
   ∃ v, (∀ w' : World, (Instr.sliceAt t ux ul uh none).run P w' = .ok v w') ∧ Rel w0 mu c bh (a.put d v) w := by
 cases x with
 | agg _ => simp [ua, N.val] at hv
 | ot _ => simp [ua, N.val] at hv
 | one cx => cases cx with
   | str s =>
     simp only [ua] at hv
     cases hk : T.kind t with
     | none => simp [hk, N.val] at hv
     | some y => cases y with
       | str =>
         simp only [hk] at hv; obtain ⟨l, q, hv, g1, g2, g3, g4⟩ := pc hl hh hv; simp only [N.val, Option.some.injEq] at hv; subst hv; have e : ux = .string s := hx; subst e; have hb := fun w' : World => C0 (P := P) (w := w') false g1 g2 g3 g4 (Nat.le_refl _)
         refine ⟨.string (s.extract (l.getD 0) (q.getD s.size)), (fun w' => by simp [Instr.sliceAt, Instr.slice, run_underlying (KC hT hk), hb w']), ?_⟩; exact h.bj (v := .one (.str _)) rfl hd
       | _ => simp [hk, N.val] at hv
   | eI =>
     simp only [ua] at hv
     cases hk : T.elem t with
     | none => simp [hk, N.val] at hv
     | some p =>
       obtain ⟨r, b⟩ := p; simp only [hk] at hv; obtain ⟨e, i, z, hu, hi, _⟩ := hT.elem t r b hk; obtain ⟨l, q, hv, g1, g2, g3, g4⟩ := pc hl hh hv; simp only [N.val, Option.some.injEq] at hv; subst hv; have eu : ux = .slice none 0 0 := hx; subst eu; have hr := fun w' : World => pL (P := P) (w := w') (a := none) hu hi g1 g2 g3 g4 (Nat.le_refl 0)
       have e1 : l.getD 0 = 0 := by omega
       have e2 : q.getD 0 = 0 := by omega
       simp only [e1, e2] at hr; exact ⟨_, hr, h.bj (v := .one .eI) rfl hd⟩
   | shr r xs =>
     simp only [ua] at hv
     cases hk : T.elem t with
     | none => simp [hk, N.val] at hv
     | some p =>
       obtain ⟨r', b⟩ := p; simp only [hk] at hv
       cases hc : ck r' xs with
       | none => simp [hc, N.val] at hv
       | some ys =>
         simp only [hc] at hv; obtain ⟨rfl, hq⟩ := bA hc
         replace hq : xs = ys := hq.symm
         subst hq; obtain ⟨e, i, z, hu, hi, mm, ED, _⟩ := hT.elem t r b hk; obtain ⟨l, q, hv, g1, g2, g3, g4⟩ := pc hl hh hv; simp only [N.val, Option.some.injEq] at hv; subst hv; have C1 := View.KD .full xs l q g3 g4; rw [Ly]; rcases (oE _ _ _ _ _).1 hx with ⟨rfl, rfl⟩ | ⟨ad, cap, rfl, h2, h3, h4⟩
         · have hr := fun w' : World => pL (P := P) (w := w') (a := none) hu hi g1 g2 g3 g4 (Nat.le_refl 0)
           simp at g3 g4; have e1 : l.getD 0 = 0 := by omega
           have e2 : q.getD 0 = 0 := by omega
           simp only [e1, show q.getD ([] : List (aq r)).length = 0 from e2] at hr; refine ⟨_, hr, h.bj (v := .one (.shr r _)) ?_ hd⟩; refine (oE _ _ _ _ _).2 (.inl ⟨rfl, ?_⟩); have := C1.2; simp [View.app] at this ⊢
           cases hw : View.full.of 0 l q <;> simp
         · have hr := fun w' : World => pL (P := P) (w := w') (a := some ad) hu hi g1 g2 g3 g4 h2
           refine ⟨_, hr, h.bj (v := .one (.shr r _)) ?_ hd⟩; have hlen : ((View.full.of xs.length l q).app xs).length = q.getD xs.length - l.getD 0 := C1.2; refine (oE _ _ _ _ _).2 (.inr ⟨if cap = l.getD 0 then ad else ad.add (l.getD 0 * i.size), cap - l.getD 0, ?_, by rw [hlen]; omega, fun gW => ?_, fun j y hy => ?_⟩)
           · rw [hlen]
             congr 1
             by_cases e : cap = l.getD 0 <;> simp [e]
           · have hp : 0 < q.getD xs.length - l.getD 0 := by rw [← hlen]; exact List.length_pos_iff.2 gW
             have Sg : xs ≠ [] := by intro e; subst e; simp at g4 hp; omega
             obtain ⟨k1, k2, k3⟩ := h3 Sg; have G0 : ad = ⟨ad.block, ad.off, none⟩ := by cases ad; simp at k1 ⊢; exact k1
             rw [if_neg (by omega), G0, Addr.add_mid]; exact ⟨rfl, k2, k3⟩
           · have hj : j < q.getD xs.length - l.getD 0 := by rw [← hlen]; exact (List.getElem?_eq_some_iff.1 hy).1
             have Sg : xs ≠ [] := by intro e; subst e; simp at g4 hj; omega
             obtain ⟨k1, k2, k3⟩ := h3 Sg; have G0 : ad = ⟨ad.block, ad.off, none⟩ := by cases ad; simp at k1 ⊢; exact k1
             rw [if_neg (by omega), G0, Addr.add_mid]; have Hf := View.w9 (View.full.of xs.length l q) xs hy; rw [show (View.full.of xs.length l q).lo = l.getD 0 by have h9 : (View.full.of xs.length l q).lo = View.full.lo + l.getD 0 := C1.1; rw [h9]; simp [View.lo]] at Hf; have := h4 _ y Hf; rw [Nat.add_mul] at this; rw [mm]; simp only; rw [Nat.add_assoc]; exact this
   | ref a' j g vw =>
     simp only [ua] at hv
     cases hk : T.elem t with
     | none => simp [hk, N.val] at hv
     | some p =>
       obtain ⟨r', b⟩ := p; simp only [hk] at hv
       cases hA : bl st a' j g with
       | none => simp [hA, N.val] at hv
       | some A =>
         simp only [hA] at hv
         cases hc : ck r' A.xs with
         | none => simp [hc, N.val] at hv
         | some ys =>
           simp only [hc] at hv; obtain ⟨e', he⟩ := bA hc; subst e'; simp only at he; subst he; obtain ⟨e, i, z, hu, hi, mm, ED, _⟩ := hT.elem t A.r b hk; obtain ⟨l, q, hv, g1, g2, g3, g4⟩ := pc hl hh hv; simp only [N.val, Option.some.injEq] at hv; subst hv; have C1 := View.KD vw A.xs l q g3 g4; have hs := hx.2.2 A hA
           cases jh : c.lc a' j with
           | nil =>
             unfold jJ at hs; rw [jh] at hs; obtain ⟨rfl, hn⟩ := hs; rw [hn] at g3 g4; have hr := fun w' : World => pL (P := P) (w := w') (a := none) hu hi g1 g2 g3 g4 (Nat.le_refl 0)
             have e1 : l.getD 0 = 0 := by omega
             have e2 : q.getD 0 = 0 := by omega
             simp only [e1, e2] at hr; refine ⟨_, hr, h.bj (v := .one (.ref a' j g _)) ⟨rfl, hx.2.1, fun A2 Jf => ?_⟩ hd⟩; rw [hA] at Jf; obtain rfl := Option.some.inj Jf; rw [jh]; refine ⟨by simp, ?_⟩; rw [C1.2, hn]; omega
           | «at» bb off cap =>
             unfold jJ at hs; rw [jh] at hs; obtain ⟨ad, cc, rfl, hcc, zg, G0⟩ := hs; have hr := fun w' : World => pL (P := P) (w := w') (a := some ad) hu hi g1 g2 g3 g4 hcc
             refine ⟨_, hr, h.bj (v := .one (.ref a' j g _)) ⟨?_, hx.2.1, fun A2 Jf => ?_⟩ hd⟩
             · by_cases e : cc = l.getD 0 <;> simp [e, Value.oneCell']
             · rw [hA] at Jf; obtain rfl := Option.some.inj Jf; rw [jh]; refine ⟨if cc = l.getD 0 then ad else ad.add (l.getD 0 * i.size), cc - l.getD 0, ?_, by rw [C1.2]; omega, by rw [C1.1]; omega, fun gW => ?_⟩
               · rw [C1.2]
                 congr 1
                 by_cases e : cc = l.getD 0 <;> simp [e]
               · rw [if_neg (by omega), G0 (by omega), Addr.add_mid, C1.1, mm, Nat.add_mul, Nat.add_assoc]
   | _ => simp [ua, N.val] at hv
end Go.TM
namespace Go.TM
open Go Go.RowKit
theorem Fw.grow {w0 : World} {mu : Mu} {c : Cz} {st : St} {a : Act} {w : World} (h : Rel w0 mu c st a w) (o : Obj) : Fw c st w c st (w.alloc o) where
 stays := wa w _ _ _ fun _ _ h => h
 refs a' j g A' _ ft := ⟨A', ft, rfl, rfl, rfl, fun _ => ⟨rfl, fun b oo cap jh => heap_alloc_old w _ b ((h.vJ (g := g) ft).lt jh)⟩⟩
 CI _ _ ow _ hb := ⟨⟨ow, hb⟩, rfl⟩
 gA _ := Nat.le_refl _
 gB _ := Nat.le_refl _
 gE _ := Nat.le_refl _
theorem Rel.grow {w0 : World} {mu : Mu} {c : Cz} {st : St} {a : Act} {w : World} (h : Rel w0 mu c st a w) (o : Obj) : Rel w0 mu c st a (w.alloc o) where
 gJ t := (Fw.grow h o).pG (h.gJ t)
 boxes s sl cs hs hb := by
   have RY := h.boxes s sl cs hs hb; exact RY.go (Fw.grow h o) rfl rfl (heap_alloc_old w _ _ (h.qi RY.1))
 aP s j sl A hs hA := (h.aP s j sl A hs hA).go (Fw.grow h o).stays rfl fun b hb => ⟨heap_alloc_old w _ b (h.qi hb), rfl⟩
 owned b l hb := ⟨Nat.lt_of_lt_of_le (h.owned b l hb).1 (by simp), (h.owned b l hb).2⟩
 free := h.free
 kept := ⟨h.kept.1, h.kept.2.1, h.kept.2.2.1, Nat.le_trans h.kept.2.2.2 (by simp)⟩
 old k hk hm := by
   rw [heap_alloc_old w _ k (Nat.lt_of_lt_of_le hk h.kept.2.2.2)]; exact h.old k hk hm
 fw p hp := (Fw.grow h o).fw (h.fw p hp)
 plain := h.plain
theorem fX.Xc {c : Cz} {st : St} {w : World} {x : CV} {cs : List CV} {vs : List Value} (h : fX c st w (x :: cs) vs) : ∃ v l, vs = v :: l ∧ kX c st w x v ∧ fX c st w cs l := by
 obtain ⟨h1, h2⟩ := h
 cases vs with
 | nil => simp at h1
 | cons v l => exact ⟨v, l, rfl, h2 0 x v rfl rfl, by simpa using h1, fun i y u hy hu => h2 (i + 1) y u (by simpa using hy) (by simpa using hu)⟩
theorem PI {w : World} {ok : Nat → Prop} {b off : Nat} (x : aq .nil) : dw w ok .nil b off x := by unfold dw; trivial
theorem zu {w : World} {ok : Nat → Prop} {t : Ty} {r : RT} {b off : Nat} {x : aq (.cons t r)} : dw w ok (.cons t r) b off x ↔ (∃ v, w.cell? ⟨b, off, none⟩ = some v ∧ cw w ok t v x.1) ∧ dw w ok r b (off + 1) x.2 := by
 constructor
 · intro h; unfold dw at h; exact h
 · intro h; unfold dw; exact h
theorem ng {c : Cz} {st : St} {w w' : World} {ok : Nat → Prop} (hs : jI w w' c.ok ok) {b : Nat} : (cs : List CV) → {r : RT} → {x : aq r} → eL cs = some ⟨r, x⟩ → (vs : List Value) → (off : Nat) → fX c st w cs vs → (∀ (i : Nat) v, vs[i]? = some v → w'.cell? ⟨b, off + i, none⟩ = some v) → dw w' ok r b off x
 | [], r, x, h, vs, off, _, _ => by
   unfold eL at h
   cases h
   exact PI _
 | cx :: cs, r, x, h, vs, off, hl, hc => by
   obtain ⟨v, l, rfl, hx, xG⟩ := hl.Xc; have h0 := hc 0 v rfl; rw [Nat.add_zero] at h0; have fL : ∀ (i : Nat) u, l[i]? = some u → w'.cell? ⟨b, off + 1 + i, none⟩ = some u := fun i u hu => by
     have := hc (i + 1) u hu
     rwa [show off + (i + 1) = off + 1 + i by omega] at this
   cases cx with
   | int k n =>
     unfold eL at h
     cases hq : eL cs with
     | none => rw [hq] at h; cases h
     | some p =>
       obtain ⟨r0, x0⟩ := p; rw [hq] at h
       cases h
       have ih := ng hs cs hq l (off + 1) xG fL; exact zu.2 ⟨⟨v, h0, rD.2 hx⟩, ih⟩
   | bool n =>
     unfold eL at h
     cases hq : eL cs with
     | none => rw [hq] at h; cases h
     | some p =>
       obtain ⟨r0, x0⟩ := p; rw [hq] at h
       cases h
       have ih := ng hs cs hq l (off + 1) xG fL; exact zu.2 ⟨⟨v, h0, sD.2 hx⟩, ih⟩
   | str n =>
     unfold eL at h
     cases hq : eL cs with
     | none => rw [hq] at h; cases h
     | some p =>
       obtain ⟨r0, x0⟩ := p; rw [hq] at h
       cases h
       have ih := ng hs cs hq l (off + 1) xG fL; exact zu.2 ⟨⟨v, h0, vZ.2 hx⟩, ih⟩
   | shr q xs =>
     unfold eL at h
     cases hq : eL cs with
     | none => rw [hq] at h; cases h
     | some p =>
       obtain ⟨r0, x0⟩ := p; rw [hq] at h
       cases h
       have ih := ng hs cs hq l (off + 1) xG fL; exact zu.2 ⟨⟨v, h0, cw.stays hs _ _ _ hx⟩, ih⟩
   | _ => simp [eL] at h
def Cz.wk (c : Cz) (s : Nat) : Cz :=
 { c with own := fun k => match c.own k with | some (.box t) => if t = s then none else some (.box t) | l => l }
theorem Cz.NC {c : Cz} {s b : Nat} (h : c.ok b) : (c.wk s).ok b := by
 unfold Cz.ok Cz.wk at *; simp [h]
theorem Cz.LB {c : Cz} {s b : Nat} (h : c.own b = some (.box s)) : (c.wk s).ok b := by
 unfold Cz.ok Cz.wk; simp [h]
theorem Cz.C2 {c : Cz} {s b : Nat} {l : Lb} (h : c.own b = some l) (gW : l ≠ .box s) : (c.wk s).own b = some l := by
 unfold Cz.wk; simp only [h]
 cases l with
 | box t =>
   simp only; rw [if_neg]
   rintro rfl
   exact gW rfl
 | _ => rfl
theorem Cz.Jg {c : Cz} {s b : Nat} {l : Lb} (h : (c.wk s).own b = some l) : c.own b = some l := by
 unfold Cz.wk at h; simp only at h
 cases hc : c.own b with
 | none => simp [hc] at h
 | some l' => cases l' with
   | box t =>
     simp only [hc] at h
     by_cases e : t = s
     · simp [e] at h
     · rw [if_neg e] at h; exact h
   | _ => simp [hc] at h; rw [h]
theorem sH (st : St) (b s : Nat) : nth (gk st b) s = if s = b then (nth st s).map (fun x => { x with box := none }) else nth st s := by
 unfold gk; rw [ec]
theorem nH (st : St) (b s : Nat) : da (gk st b) s = da st s ∧ ev (gk st b) s = ev st s ∧ jg (gk st b) s = jg st s ∧ ou (gk st b) s = ou st s ∧ ∀ j g, bl (gk st b) s j g = bl st s j g := by
 unfold da ev jg ou bl; rw [sH]
 by_cases e : s = b
 · rw [if_pos e]
   cases nth st s <;> simp
 · rw [if_neg e]; simp
theorem Gd {st : St} {b s g : Nat} {cs : List CV} (h : eR (gk st b) s g = some cs) : s ≠ b ∧ eR st s g = some cs := by
 unfold eR at h ⊢; rw [sH] at h
 by_cases e : s = b
 · rw [if_pos e] at h
   cases hx : nth st s with
   | none => rw [hx] at h; cases h
   | some x =>
     rw [hx] at h; simp only [Option.map_some] at h
     cases hb : Nat.beq x.bg g <;> rw [hb] at h <;> cases h
 · rw [if_neg e] at h; exact ⟨e, h⟩
theorem Fw.gk (c : Cz) (st : St) (w : World) (s : Nat) : Fw c st w (c.wk s) (gk st s) w where
 stays := ⟨Nat.le_refl _, fun _ _ _ => rfl, fun _ _ h => Cz.NC h⟩
 refs a' j' g A' _ ft := ⟨A', by rwa [(nH st s a').2.2.2.2] at ft, rfl, rfl, rfl, fun _ => ⟨rfl, fun _ _ _ _ => rfl⟩⟩
 CI b g ow _ h := ⟨⟨ow, (Gd h).2⟩, rfl⟩
 gA b := by rw [(nH st s b).2.1]; exact Nat.le_refl _
 gB b := by rw [(nH st s b).2.2.1]; exact Nat.le_refl _
 gE b := by rw [(nH st s b).2.2.2.1]; exact Nat.le_refl _
theorem Rel.gk {w0 : World} {mu : Mu} {c : Cz} {st : St} {a : Act} {w : World} (h : Rel w0 mu c st a w) (s : Nat) : Rel w0 mu (c.wk s) (gk st s) a w where
 gJ t := by rw [(nH st s t).1]; exact (Fw.gk c st w s).pG (h.gJ t)
 boxes b sl cs hs hb := by
   rw [sH] at hs
   by_cases e : b = s
   · rw [if_pos e] at hs
     cases hx : nth st b with
     | none => rw [hx] at hs; cases hs
     | some x => rw [hx] at hs; simp at hs; subst hs; cases hb
   · rw [if_neg e] at hs; have h0 := h.boxes b sl cs hs hb; exact h0.go (Fw.gk c st w s) rfl (by rw [h0.1]; exact Cz.C2 h0.1 (by intro e'; injection e' with e'; exact e e')) rfl
 aP b i sl A hs hb := by
   rw [sH] at hs; have h0 : cz c w b i A := by
     by_cases e : b = s
     · rw [if_pos e] at hs
       cases hx : nth st b with
       | none => rw [hx] at hs; cases hs
       | some x => rw [hx] at hs; simp at hs; subst hs; exact h.aP b i x A hx hb
     · rw [if_neg e] at hs; exact h.aP b i sl A hs hb
   exact h0.go (Fw.gk c st w s).stays rfl fun k h1 => ⟨rfl, by rw [h1]; exact Cz.C2 h1 (by intro e; cases e)⟩
 owned b l hb := h.owned b l (Cz.Jg hb)
 free b hb h1 := by
   cases hc : c.own b with
   | none => exact h.free b hb hc
   | some l =>
     rcases (h.owned b l hc).2 with h2 | h2 | h2
     · subst h2; unfold Cz.wk at h1; simp [hc] at h1
     · omega
     · exact .inl h2
 kept := h.kept
 old := h.old
 fw p hp := (Fw.gk c st w s).fw (h.fw p hp)
 plain := h.plain
theorem Hh {w : World} {b : Nat} {vs : Array Value} {ty : TypeId} (h : w.heap[b]? = some (.cells vs ty (0, 0))) {i : Nat} {v : Value} (hv : vs.toList[i]? = some v) : w.cell? ⟨b, i, none⟩ = some v := by
 unfold World.cell?; simp [h]; simpa using hv
theorem PJ {w0 : World} {mu : Mu} {c : Cz} {st bh : St} {a : Act} {w : World} (h : Rel w0 mu c st a w) {t : Nat} {r : RT} {ys : List (aq r)} (hc : Px st t = some (bh, ⟨r, ys⟩)) :
   ∃ c', Rel w0 mu c' bh a w ∧ Fw c st w c' bh w ∧ E3 w c'.ok r (a.eval (.tmp t)) ys := by
 have hx := h.gJ t; unfold Px at hc
 split at hc
 · rename_i r' x' off e; obtain ⟨h1, hc⟩ := aH hc; have h1 := Nat.eq_of_beq_eq_true h1; subst h1
   cases hc
   rw [e] at hx; obtain ⟨b, o, e1, e2, e3, e4⟩ := hx; refine ⟨c, h, Fw.refl c st w, b, o, e1, e2, e3, fun y hy => ?_⟩; simp at hy; subst hy; exact e4
 · rename_i r' xs off e; obtain ⟨h1, hc⟩ := aH hc; have h1 := Nat.eq_of_beq_eq_true h1; subst h1
   cases hc
   rw [e] at hx; obtain ⟨b, o, e1, e2, e3, e4⟩ := hx; exact ⟨c, h, Fw.refl c st w, b, o, e1, e2, e3, e4⟩
 · rename_i b g off e
   cases hb : eR st b g with
   | none => rw [hb] at hc; cases hc
   | some cs =>
     rw [hb] at hc; simp only at hc; obtain ⟨h1, hc⟩ := aH hc; have h1 := Nat.eq_of_beq_eq_true h1; subst h1
     cases hp : eL cs with
     | none => rw [hp] at hc; cases hc
     | some p =>
       obtain ⟨r0, x0⟩ := p; rw [hp] at hc
       cases hc
       rw [e] at hx; have hu := hx.2.2 cs hb; obtain ⟨sl, Ev, Pe, Ew⟩ := iF hb; obtain ⟨ho, vs, ty, hh, hl⟩ := h.boxes b sl cs Ev Ew; refine ⟨_, h.gk b, Fw.gk c st w b, c.bx b, 0, hu, h.qi ho, Cz.LB ho, fun y hy => ?_⟩; simp at hy; subst hy; refine ng (Fw.gk c st w b).stays cs hp vs.toList 0 hl fun i v hv => ?_
       rw [Nat.zero_add]; exact Hh hh hv
 · cases hc
theorem Hi {w0 : World} {mu : Mu} {a : Act} {w : World} : (l : List Operand) → {c : Cz} → {st bh : St} → Rel w0 mu c st a w → {rs : RT} → {x : aq rs} → xE st l = some (bh, ⟨rs, x⟩) →
   ∃ c', Rel w0 mu c' bh a w ∧ Fw c st w c' bh w ∧ ug w c'.ok rs (l.map a.eval) x
 | [], c, st, bh, h, rs, x, hc => by
   unfold xE at hc
   cases hc
   exact ⟨c, h, Fw.refl c st w, rfl⟩
 | .tmp t :: l, c, st, bh, h, rs, x, hc => by
   unfold xE at hc
   cases h1 : Px st t with
   | none => rw [h1] at hc; cases hc
   | some p =>
     obtain ⟨AD, r, y⟩ := p; rw [h1] at hc; simp only at hc
     cases h2 : xE AD l with
     | none => rw [h2] at hc; cases hc
     | some p =>
       obtain ⟨il, rs0, ys⟩ := p; rw [h2] at hc
       cases hc
       obtain ⟨c1, k1, k2, k3⟩ := PJ h h1; obtain ⟨c2, g1, g2, g3⟩ := Hi l k1 h2; exact ⟨c2, g1, k2.trans g2, _, _, rfl, k3.stays g2.stays, g3⟩
 | .const _ :: _, _, _, _, _, _, _, hc => by simp [xE] at hc
 | .func _ :: _, _, _, _, _, _, _, hc => by simp [xE] at hc
 | .global _ :: _, _, _, _, _, _, _, hc => by simp [xE] at hc
theorem Hj {c : Cz} {st : St} {w : World} : (rs : RT) → (vs : List Value) → (x : aq rs) → ug w c.ok rs vs x → (vI rs x).length = vs.length ∧ ∀ (k : Nat) v u, (vI rs x)[k]? = some v → vs[k]? = some u → fY c st w v u
 | .nil, vs, x, h => by
   subst h; exact ⟨rfl, fun k v u hv => by simp [vI] at hv⟩
 | .cons (.sl r) rs, vs, x, h => by
   obtain ⟨v0, l, rfl, ⟨b, o, e1, e2, e3, e4⟩, h2⟩ := h; obtain ⟨g1, g2⟩ := Hj (c := c) (st := st) rs l x.2 h2; refine ⟨by simp [vI, g1], fun k v u hv hu => ?_⟩
   cases k with
   | zero =>
     simp only [vI, List.getElem?_cons_zero, Option.some.injEq] at hv hu; subst hv hu; exact ⟨b, o, by rw [Nat.add_zero]; exact e1, e2, e3, e4⟩
   | succ k => exact g2 k v u (by simpa [vI] using hv) (by simpa using hu)
 | .cons (.int _) _, _, _, h => h.elim
 | .cons .bool _, _, _, h => h.elim
 | .cons .str _, _, _, h => h.elim
end Go.TM
namespace Go.TM
open Go Go.RowKit
def xq (P : Program) (T : lZ) : Prop :=
 ∀ t, T.eq t = true → ∀ (c : Cz) (st : St) (w : World) (l m : List CV) (us vs : Array Value) (b : Bool) (op : BinOp) (ox oy : Operand), T.fits t l = true → nE l m = some b →
   fX c st w l us.toList → fX c st w m vs.toList → ∀ w' : World, (eqGuard op t ox oy (.agg us) (.agg vs)).run P w' = .ok () w' ∧ (Op.equal t (.agg us) (.agg vs)).run P w' = .ok b w'
def xK (P : Program) (w0 : World) (mu : Mu) (bh : St) (o : Oper) (a : Act) (w : World) (kp : Bool) : Prop :=
 ∀ Q : Exit → Act → World → Prop, o.wp P a w (fun a' w' => (∃ c', Rel w0 mu c' bh a' w' ∧ a'.tmps.size = a.tmps.size) ∧ (kp = true → ji w w')) Q
theorem rH (a : Act) (d : Option Tmp) (v : Value) : (a.put d v).tmps.size = a.tmps.size := by
 cases d <;> simp [Act.put]
theorem x4 {P : Program} {w0 : World} {mu : Mu} {c' : Cz} {bh : St} {o : Oper} {a : Act} {w w' : World} {v : Value} {kp : Bool} (hr : (execOp a.eval o).run P w = .ok (.value v) w') (h : Rel w0 mu c' bh (a.put o.dst v) w') (hk : kp = true → ji w w') :
   xK P w0 mu bh o a w kp := by
 intro Q; unfold Oper.wp; rw [hr]; exact ⟨⟨c', h, rH a _ _⟩, hk⟩
theorem rI {P : Program} {s : Sem Value} {w w' : World} {v : Value} (h : s.run P w = .ok v w') : (do pure (Next.value (← s)) : Sem Next).run P w = .ok (.value v) w' := by
 simp [Sem.run_bind, h]
theorem Hk {w0 : World} {mu : Mu} {c : Cz} {st : St} {a : Act} {w : World} (h : Rel w0 mu c st a w) (parts : Array (Nat × Operand)) :
   pK c st w (parts.toList.map fun p => (p.1, nB st p.2)) (parts.map fun (i, x) => (i, a.eval x)).toList := by
 refine ⟨by simp, fun i p u hp hu => ?_⟩; simp only [List.getElem?_map, Array.toList_map] at hp hu
 cases hq : parts.toList[i]? with
 | none => simp [hq] at hp
 | some q =>
   simp only [hq, Option.map_some, Option.some.injEq] at hp hu; subst hp hu; exact ⟨rfl, bY h q.2⟩
theorem Rj {w0 : World} {mu : Mu} {c : Cz} {st : St} {a : Act} {w : World} (h : Rel w0 mu c st a w) (x : Option Operand) : Hg c st w (x.map (nB st)) (x.map a.eval) := by
 cases x with
 | none => rfl
 | some x => exact ⟨_, rfl, bY h x⟩
theorem LC {P : Program} {w : World} {ok : Nat → Prop} {u : Value} {ys : List (aq (.cons (.int .u8) .nil))} (h : V4 w ok (.cons (.int .u8) .nil) u ys) : (Conv.bytesToString u).run P w = .ok (.string (bytesOf ys)) w := by
 rcases h with ⟨rfl, rfl⟩ | ⟨a, cap, rfl, hs, hr⟩
 · rfl
 · have key := run_bytesToString (P := P) w a ys.length cap (ys.map Kt) (by
     have h1 : ((ys.map Kt).map (Value.int .u8)).length = ys.length := by simp
     have h2 := run_loadCells_list (P := P) (w := w) a ((ys.map Kt).map (Value.int .u8)) (by
       intro j v hv; rw [List.map_map, List.getElem?_map] at hv
       cases hy : ys[j]? with
       | none => rw [hy] at hv; cases hv
       | some y =>
         rw [hy] at hv; simp only [Option.map_some, Option.some.injEq, Function.comp] at hv; subst hv; have h3 := hr j y hy; unfold dw at h3; obtain ⟨⟨v, h4, h5⟩, _⟩ := h3; have h5 := rD.1 h5; subst h5; have gW : ys ≠ [] := by intro e; rw [e] at hy; simp at hy
         have C1 := hs gW; have e : a.add j = ⟨a.block, a.off + j * (RT.cons (.int .u8) .nil).width, none⟩ := by
           simp only [RT.width, Nat.zero_add, Nat.mul_one]; unfold Addr.add
           split
           · rename_i h0; subst h0; obtain ⟨b, o, s⟩ := a; simp at C1; subst C1; rfl
           · rfl
         rw [e]; exact h4)
     rw [h1] at h2; exact h2)
   rw [key]
   congr 2
   unfold bytesOf; rw [List.foldl_map]
def Op.Jh : Op → Bool
 | .call { callee := .value (.func _), .. } => true
 | .call { callee := .value (.tmp _), .. } => true
 | _ => false
theorem Hl {c : Cz} {st : St} {w : World} {x : V} {v : Value} (h : zf c st w x v) : fY c st w x v := by
 cases x with
 | one _ => exact h
 | agg _ => exact h
 | ot _ => exact h.elim
theorem KE {P : Program} {T : lZ} (hT : gX P T) (hE : xq P T) {S : kK} {w0 : World} {mu : Mu} {c : Cz} {st : St} {a : Act} {w : World} (h : Rel w0 mu c st a w) {o : Oper} (hk : kindOk S st o .any = true)
   {bh : St} (hv : (Ku T S st o).val = some bh) (hd : ∀ k, o.dst = some k → k < a.tmps.size) : ∃ v, (∀ w' : World, (execOp a.eval o).run P w' = .ok (.value v) w') ∧ Rel w0 mu c bh (a.put o.dst v) w := by
 have one : ∀ (v : Value), Rel w0 mu c bh (a.put o.dst v) w → (∀ w' : World, (execOp a.eval o).run P w' = .ok (.value v) w') → ∃ v, (∀ w' : World, (execOp a.eval o).run P w' = .ok (.value v) w') ∧ Rel w0 mu c bh (a.put o.dst v) w :=
   fun v h1 h2 => ⟨v, h2, h1⟩
 unfold Ku at hv; unfold kindOk at hk
 cases ho : o.op with
 | move x =>
   simp only [ho, N.val, Option.some.injEq] at hv; subst hv; exact one _ (h.bj (bY h x) hd) (fun w' => by simp [execOp, ho])
 | assign x =>
   simp only [ho, N.val, Option.some.injEq] at hv; subst hv; exact one _ (h.bj (bY h x) hd) (fun w' => by simp [execOp, ho])
 | pick x y z =>
   simp only [ho] at hv; have hx := bY h x
   cases hq : nB st x with
   | agg _ => simp [hq, N.val] at hv
   | ot _ => simp [hq, N.val] at hv
   | one cx => cases cx with
     | bool b =>
       rw [hq] at hx; have e : a.eval x = .bool b := hx; simp only [hq] at hv; rcases wh hv with ⟨hb, Cp⟩ | ⟨hb, Cp⟩
       · simp only [N.val, Option.some.injEq] at Cp; rw [← Cp] at one ⊢; subst hb; exact one _ (h.bj (bY h y) hd) (fun w' => by simp [execOp, ho, e, asBool])
       · simp only [N.val, Option.some.injEq] at Cp; rw [← Cp] at one ⊢; subst hb; exact one _ (h.bj (bY h z) hd) (fun w' => by simp [execOp, ho, e, asBool])
     | _ => simp [hq, N.val] at hv
 | build t parts =>
   simp only [ho] at hv
   cases hr : T.row t with
   | none => simp [hr, N.val] at hv
   | some r => cases hg : T.agg t with
     | false => simp [hr, hg, N.val] at hv
     | true =>
       simp only [hr, hg] at hv
       cases hfc : oJ T t (oH r) (parts.toList.map fun p => (p.1, nB st p.2)) with
       | none => simp [hfc, N.val] at hv
       | some cs =>
         simp only [hfc, N.val, Option.some.injEq] at hv; subst hv; obtain ⟨v, h1, h2⟩ := Nz hT h hr hg (Hk h parts) hfc hd; exact one v (h2) (fun w' => by simp only [execOp, ho]; exact rI (h1 w'))
 | nilCheck x =>
   simp only [ho] at hv; have hx := bY h x
   cases hq : nB st x with
   | agg _ => simp [hq, N.val] at hv
   | ot _ => simp [hq, N.val] at hv
   | one cx => cases cx with
     | ptr b g off =>
       rw [hq] at hx; simp only [hq] at hv
       cases Cf : eR st b g with
       | none => simp [Cf, N.val] at hv
       | some cs =>
         simp only [Cf, N.val, Option.some.injEq] at hv; subst hv; have e := hx.2.2 cs Cf; exact one _ (h.bj (v := .one (.ptr b g off)) hx hd) (fun w' => by simp [execOp, ho, e])
     | _ => simp [hq, N.val] at hv
 | binOp op t x y t2 =>
   simp only [ho] at hv; obtain ⟨v, h1, h2⟩ := PG hT h (fun t ht l m us vs b op ox oy => hE t ht c st w l m us vs b op ox oy) (ox := x) (oy := y) (bY h x) (bY h y) hv hd; exact one v (h2) (fun w' => by simp only [execOp, ho]; exact rI (h1 w'))
 | unOp op t x =>
   cases op with
   | not =>
     simp only [ho] at hv; have hx := bY h x
     cases hq : nB st x with
     | agg _ => simp [hq, N.val] at hv
     | ot _ => simp [hq, N.val] at hv
     | one cx => cases cx with
       | bool b =>
         rw [hq] at hx; have e : a.eval x = .bool b := hx; simp only [hq, N.val, Option.some.injEq] at hv; subst hv; exact one (.bool (!b)) (h.bj (v := .one (.bool (!b))) rfl hd) (fun w' => by simp [execOp, ho, e, Op.unary])
       | _ => simp [hq, N.val] at hv
   | _ => simp [ho, N.val] at hv
 | convert t1 t2 x =>
   simp only [ho] at hv; have hx := bY h x
   split at hv
   · rename_i k1 k2 k n h1 h2 hq; rw [hq] at hx; have e : a.eval x = .int k n := hx; simp only [N.val, Option.some.injEq] at hv; subst hv; obtain ⟨d1, g1, _⟩ := hT.kind _ _ h1; obtain ⟨d2, g2, e2⟩ := hT.kind _ _ h2; simp only [descOf] at e2; subst e2; refine one (.int k2 (k2.wrap n)) (h.bj (v := .one (.int k2 (k2.wrap n))) rfl hd) (fun w' => ?_); simp only [execOp, ho]; refine rI ?_; simp [convert, run_underlying g1, run_underlying g2, e, Conv.intToInt]
   · rename_i b h1 h2 hq; rw [hq] at hx; have e : a.eval x = .string b := hx; simp only [N.val, Option.some.injEq] at hv; subst hv; obtain ⟨d1, g1, e1⟩ := hT.kind _ _ h1; obtain ⟨d2, g2, e2⟩ := hT.kind _ _ h2; simp only [descOf] at e2 e1; subst e2 e1; refine one (.string b) (h.bj (v := .one (.str b)) rfl hd) (fun w' => ?_); simp only [execOp, ho]; refine rI ?_; simp [convert, run_underlying g1, run_underlying g2, e]
   · rename_i cx _ _ hq; rw [ho] at hk; simp only [hq] at hk
     split at hv
     · cases cx <;> first | (simp [mn, N.val] at hv; done) | (simp at hk; done)
     · simp [N.val] at hv
   · simp [N.val] at hv
 | slice t x lo hi mx =>
   cases mx with
   | some _ => simp [ho, N.val] at hv
   | none =>
     simp only [ho] at hv; obtain ⟨v, h1, h2⟩ := LA hT h (bY h x) (Rj h lo) (Rj h hi) hv hd; exact one v (h2) (fun w' => by simp only [execOp, ho]; exact rI (h1 w'))
 | fieldAddr t x f =>
   simp only [ho] at hv; have hx := bY h x; have place : ∀ (b q k : Nat), T.off t f = some k → a.eval x = .pointer (some ⟨b, q, none⟩) → ∀ w' : World, (execOp a.eval o).run P w' = .ok (.value (.pointer (some ⟨b, q + k, none⟩))) w' := by
     intro b q k hk e w'; obtain ⟨fs, E4, n, g1, g2, g3, g4⟩ := hT.off t f k hk
     cases hi : P.info? E4.type with
     | none => simp [hi] at g4
     | some i =>
       simp only [hi, Option.map_some, Option.some.injEq] at g4; simp only [execOp, ho]; refine rI ?_; subst g3; simp [Instr.fieldAt, run_underlying g1, g2, e, Instr.sureAddr, fieldPlace, sizeOf, typeInfo, hi, g4, Addr.add]
   split at hv
   · rename_i b g off k hq hk; rw [hq] at hx
     cases Cf : eR st b g with
     | none => simp [Cf, N.val] at hv
     | some cs =>
       simp only [Cf, N.val, Option.some.injEq] at hv; subst hv; have e := hx.2.2 cs Cf; refine one (.pointer (some ⟨c.bx b, off + k, none⟩)) (h.bj (v := .one (.ptr b g (off + k))) ⟨rfl, hx.2.1, fun ow I5 => rfl⟩ hd) (place _ _ k hk e)
   · rename_i a' j g i off k hq hk; rw [hq] at hx
     cases hA : bl st a' j g with
     | none => simp [hA, N.val] at hv
     | some A =>
       simp only [hA, N.val, Option.some.injEq] at hv; subst hv; obtain ⟨hi, b, o', cap, hl, e⟩ := hx.2.2 A hA; refine one (.pointer (some ⟨b, o' + i * A.r.width + off + k, none⟩)) (h.bj (v := .one (.Li a' j g i (off + k))) ⟨rfl, hx.2.1, fun A' ft => ?_⟩ hd) (place _ _ k hk e); rw [hA] at ft
       cases ft
       exact ⟨hi, b, o', cap, hl, by rw [Nat.add_assoc]⟩
   · rename_i r y off k hq hk; rw [hq] at hx; simp only [N.val, Option.some.injEq] at hv; subst hv; obtain ⟨b, o', e, h1, h2, h3⟩ := hx; exact one (.pointer (some ⟨b, o' + off + k, none⟩)) (h.bj (v := .one (.mH r y (off + k))) ⟨b, o', by rw [Nat.add_assoc], h1, h2, h3⟩ hd) (place _ _ k hk e)
   · rename_i r ys off k hq hk; rw [hq] at hx; simp only [N.val, Option.some.injEq] at hv; subst hv; obtain ⟨b, o', e, h1, h2, h3⟩ := hx; exact one (.pointer (some ⟨b, o' + off + k, none⟩)) (h.bj (v := .one (.sX r ys (off + k))) ⟨b, o', by rw [Nat.add_assoc], h1, h2, h3⟩ hd) (place _ _ k hk e)
   · simp [N.val] at hv
 | indexAddr t x i =>
   simp only [ho] at hv; obtain ⟨v, h1, h2⟩ := Lx hT h (bY h x) (bY h i) hv hd; exact one v (h2) (fun w' => by simp only [execOp, ho]; exact rI (h1 w'))
 | index t x i =>
   simp only [ho] at hv; have hx := bY h x; have hi := bY h i
   split at hv
   · rename_i s k n h1 Sh I9; rw [Sh] at hx; rw [I9] at hi; have e1 : a.eval x = .string s := hx; have e2 : a.eval i = .int k n := hi; obtain ⟨Pf, hv⟩ := fZ hv; obtain ⟨hn1, hv⟩ := fZ hv; have Pf := of_decide_eq_true Pf; have hn1 := of_decide_eq_true hn1; simp only [N.val, Option.some.injEq] at hv; subst hv; obtain ⟨d1, g1, e3⟩ := hT.kind _ _ h1; simp only [descOf] at e3; subst e3; have dm : n.toNat < s.size := by omega
     have hb : s[n.toNat]? = some s[n.toNat] := getElem?_pos s n.toNat dm; refine one (.int .u8 (FY s n)) (h.bj (v := .one (.int .u8 (FY s n))) rfl hd) (fun w' => ?_); simp only [execOp, ho]; refine rI ?_; simp [Instr.index, e1, e2, asIntOf, run_underlying g1, Pf, hb, FY]
   · simp [N.val] at hv
 | field t x f =>
   simp only [ho] at hv; have hx := bY h x
   cases hq : nB st x with
   | one _ => simp [hq, N.val] at hv
   | ot _ => simp [hq, N.val] at hv
   | agg cs =>
     rw [hq] at hx; simp only [hq] at hv
     cases Bt : T.off t f with
     | none => simp [Bt, N.val] at hv
     | some k =>
       simp only [Bt] at hv; obtain ⟨h1, hv⟩ := fl hv
       cases hn : nth cs k with
       | none => simp [hn, N.val] at hv
       | some u =>
         simp only [hn, N.val, Option.some.injEq] at hv; subst hv; obtain ⟨vs, e, hl, he⟩ := hx; rw [gO] at hn; have dm : k < vs.size := by rw [← Array.length_toList, ← hl]; exact (List.getElem?_eq_some_iff.1 hn).1
         have hg : vs[k]? = some vs[k] := Array.getElem?_eq_getElem dm; obtain ⟨fs, E4, d1, g1, g2, g3, g4⟩ := hT.one t f h1; obtain ⟨fs', ajs, _, V8, g2', g5, _⟩ := hT.off t f k Bt; rw [g1] at V8; injection V8 with V8; injection V8 with V8; subst V8; rw [g2] at g2'; injection g2' with g2'; subst g2'; refine one vs[k] (h.bj (v := .one u) (he k u _ hn (by rw [Array.getElem?_toList]; exact hg)) hd) (fun w' => ?_); simp only [execOp, ho]; refine rI ?_; have RZ : (isAgg E4.type).run P w' = .ok false w' := by
           unfold isAgg; rw [Sem.run_bind, run_underlying g3 w']
           cases d1 <;> simp_all [TypeDesc.isRow]
         simp [Instr.field, e, run_underlying g1, g2, part, asAgg, RZ, g5, hg]
 | extract t i =>
   simp only [ho] at hv; have hx := bY h t
   cases hq : nB st t with
   | one _ => simp [hq, N.val] at hv
   | agg _ => simp [hq, N.val] at hv
   | ot vs =>
     rw [hq] at hx; simp only [hq] at hv
     cases hn : nth vs i with
     | none => simp [hn, N.val] at hv
     | some u =>
       simp only [hn, N.val, Option.some.injEq] at hv; subst hv; obtain ⟨us, e, hl, he⟩ := hx; rw [gO] at hn; have dm : i < us.size := by rw [← hl]; exact (List.getElem?_eq_some_iff.1 hn).1
       have hg : us[i]? = some us[i] := Array.getElem?_eq_getElem dm; refine one us[i] (h.bj (Hl (he i u _ hn hg)) hd) (fun w' => ?_); simp only [execOp, ho]; refine rI ?_; simp [Instr.extract, e, hg]
 | call cl =>
   obtain ⟨callee, args, Pk⟩ := cl
   cases callee with
   | invoke r n => simp [ho, N.val] at hv
   | value x =>
     cases x with
     | func f => simp [ho] at hk
     | tmp f => simp [ho] at hk
     | _ => simp [ho, N.val] at hv
   | builtin b =>
     have hx := fun x => bY h x
     simp only [ho] at hv; have KG : ∀ x y, args.toList = [x, y] → args = #[x, y] := fun x y e => by rw [← Array.toArray_toList (xs := args), e]
     split at hv
     · rename_i x t ha ht; have ha : args = #[x] := by rw [← Array.toArray_toList (xs := args), ha]
       have ht : Pk = #[t] := by rw [← Array.toArray_toList (xs := Pk), ht]
       subst ha ht; obtain ⟨v, h1, h2⟩ := PH (ty := o.type) hT h (bY h x) hv hd; exact one v (h2) (fun w' => by simp only [execOp, ho]; simp [resolve, invoke, builtin, Sem.run_bind, h1 w'])
     · rename_i x y t u ha ht; simp [ho] at hk
     · rename_i ts x y ha; have ha := KG x y ha; subst ha
       split at hv
       · rename_i k p l q Sh I9; have e1 := bY h x; have e2 := bY h y; rw [Sh] at e1; rw [I9] at e2; have e1 : a.eval x = .int k p := e1; have e2 : a.eval y = .int l q := e2; simp only [N.val, Option.some.injEq] at hv; subst hv; exact one _ (h.bj (v := .one (.int k (if q < p then q else p))) (u := .int k (if q < p then q else p)) rfl hd) (fun w' => by simp only [execOp, ho]; simp [resolve, invoke, builtin, Sem.run_bind, Builtin.min_, Builtin.min2, e1, e2])
       · simp [N.val] at hv
     · rename_i ts x y ha; have ha := KG x y ha; subst ha
       split at hv
       · rename_i k p l q Sh I9; have e1 := bY h x; have e2 := bY h y; rw [Sh] at e1; rw [I9] at e2; have e1 : a.eval x = .int k p := e1; have e2 : a.eval y = .int l q := e2; simp only [N.val, Option.some.injEq] at hv; subst hv; exact one _ (h.bj (v := .one (.int k (if q > p then q else p))) (u := .int k (if q > p then q else p)) rfl hd) (fun w' => by simp only [execOp, ho]; simp [resolve, invoke, builtin, Sem.run_bind, Builtin.max_, Builtin.max2, e1, e2])
       · simp [N.val] at hv
     · rename_i ts x y z ha; have ha : args = #[x, y, z] := by rw [← Array.toArray_toList (xs := args), ha]
       subst ha
       split at hv
       · rename_i k p l q m s Sh I9 Xd; have e1 := bY h x; have e2 := bY h y; have e3 := bY h z; rw [Sh] at e1; rw [I9] at e2; rw [Xd] at e3; have e1 : a.eval x = .int k p := e1; have e2 : a.eval y = .int l q := e2; have e3 : a.eval z = .int m s := e3; simp only [N.val, Option.some.injEq] at hv; subst hv; exact one _ (h.bj (v := .one (.int k (if s < (if q < p then q else p) then s else (if q < p then q else p)))) (u := .int k (if s < (if q < p then q else p) then s else (if q < p then q else p))) rfl hd) (fun w' => by simp only [execOp, ho]; simp [resolve, invoke, builtin, Sem.run_bind, Builtin.min_, Builtin.min2, e1, e2, e3])
       · simp [N.val] at hv
     · simp [N.val] at hv
 | _ => simp [ho] at hk
theorem Si {P : Program} {T : lZ} (hT : gX P T) (hE : xq P T) {S : kK} {w0 : World} {mu : Mu} {c : Cz} {st : St} {a : Act} {w : World} (h : Rel w0 mu c st a w) {o : Oper} (hf : Op.Jh o.op = false)
   {bh : St} (hv : (Ku T S st o).val = some bh) (hd : ∀ k, o.dst = some k → k < a.tmps.size) : xK P w0 mu bh o a w (kindOk S st o .one) := by
 by_cases hp : kindOk S st o .any = true
 · obtain ⟨v, h1, h2⟩ := KE hT hE h hp hv hd; exact x4 (h1 w) h2 (fun _ => ji.refl w)
 have one : ∀ (v : Value) (w' : World), (∃ c', Rel w0 mu c' bh (a.put o.dst v) w') → ji w w' → (execOp a.eval o).run P w = .ok (.value v) w' → xK P w0 mu bh o a w (kindOk S st o .one) :=
   fun v w' ⟨c', h'⟩ hk hr => x4 hr h' (fun _ => hk)
 unfold kindOk at hp; unfold Ku at hv
 cases ho : o.op with
 | alloc t =>
   simp only [ho] at hv
   cases hr : T.row t with
   | none => simp [hr, N.val] at hv
   | some r =>
     simp only [hr] at hv; obtain ⟨k, s0, hk, jb, rfl⟩ := Bu hv; obtain ⟨i, z, hi, hz, Lu⟩ := hT.row t r hr; refine one _ _ ⟨_, hk ▸ h.je (ty := t) jb (hd k hk) (wj Lu)⟩ (ji.alloc _ _) ?_; simp [execOp, ho, Instr.alloc, zeroValue, typeInfo, hi, hz, newVar, newRow]
 | box t x =>
   simp only [ho] at hv
   cases hn : T.cells t with
   | none => simp [hn, N.val] at hv
   | some n =>
     simp only [hn] at hv; obtain ⟨hc, hv⟩ := fl hv; rw [Bool.and_eq_true] at hc; obtain ⟨sy, _⟩ := (bY h x).cells hc.1
     cases j3 : (bif T.cap t then eL (nB st x).cells else none) with
     | none =>
       rw [j3] at hv; obtain ⟨k, s0, hk, jb, rfl⟩ := Bu hv; refine one _ _ ⟨_, hk ▸ h.je (ty := t) jb (hd k hk) sy⟩ (ji.alloc _ _) ?_; simp [execOp, ho, Instr.box, newVar, newRow]
     | some p =>
       obtain ⟨r, y⟩ := p; rw [j3] at hv; simp only [N.val, Option.some.injEq] at hv; subst hv; have hp2 : eL (nB st x).cells = some ⟨r, y⟩ := by
         cases hcp : T.cap t with
         | true => rw [hcp] at j3; exact j3
         | false => rw [hcp] at j3; cases j3
       have C3 : c.ok w.heap.size := by
         unfold Cz.ok
         cases hq : c.own w.heap.size with
         | none => rfl
         | some l => exact absurd (h.owned _ l hq).1 (Nat.lt_irrefl _)
       have wc : fY c st (w.alloc (.cells (a.eval x).cells t (0, 0))) (.one (.mH r y 0)) (.pointer (some ⟨w.heap.size, 0, none⟩)) :=
         ⟨w.heap.size, 0, rfl, by simp, C3, ng (Fw.grow h _).stays _ hp2 _ 0 sy fun i v hv => by
           rw [Nat.zero_add]; exact Hh (heap_alloc_new w _) hv⟩
       refine one (.pointer (some ⟨w.heap.size, 0, none⟩)) (w.alloc (.cells (a.eval x).cells t (0, 0))) ⟨c, (h.grow _).bj wc hd⟩ (ji.alloc _ _) ?_; simp [execOp, ho, Instr.box, newVar, newRow]
 | makeFunc fn first xp =>
   cases fn with
   | func g =>
     simp only [ho] at hv; obtain ⟨aco, hv⟩ := fl hv
     cases hc : xE st xp.toList with
     | none => simp [hc, N.val] at hv
     | some p =>
       obtain ⟨AD, rs, x⟩ := p; rw [hc] at hv; simp only [N.val, Option.some.injEq] at hv; subst hv; obtain ⟨c1, h1, h2, h3⟩ := Hi _ h hc; have hf0 : first = #[] := by simpa using aco
       subst hf0; have wc : fY c1 AD w (.one (.fn g rs [x])) (.func (.func g) #[] (xp.map a.eval)) :=
         ⟨_, rfl, fun y hy => by
           simp at hy; subst hy; rw [Array.toList_map]; exact h3⟩
       exact one _ w ⟨c1, h1.bj wc hd⟩ (ji.refl w) (by simp [execOp, ho, Instr.makeFunc])
   | _ => simp [ho, N.val] at hv
 | buildSlice t len parts =>
   simp only [ho] at hv; obtain ⟨v, w', h1, PK, c', h2⟩ := CY hT h (Hk h parts) hv hd; exact one v w' ⟨c', h2⟩ PK (by simp only [execOp, ho]; exact rI h1)
 | makeSlice t l cp =>
   simp only [ho] at hv; obtain ⟨v, w', h1, PK, c', h2⟩ := Nx hT h (bY h l) (bY h cp) hv hd; exact one v w' ⟨c', h2⟩ PK (by simp only [execOp, ho]; exact rI h1)
 | load t x =>
   simp only [ho] at hv; obtain ⟨v, h1, h2⟩ := G3 hT h (bY h x) hv hd; exact one v w ⟨c, h2⟩ (ji.refl w) (by simp only [execOp, ho]; exact rI (h1 w (ji.refl w)))
 | store t x y =>
   simp only [ho] at hv
   cases vP : o.dst with
   | some _ => simp [vP, N.val] at hv
   | none =>
     simp only [vP] at hv; obtain ⟨w', h1, c', h2⟩ := Ls hT h (bY h x) (bY h y) hv; intro Q; have hr : (execOp a.eval o).run P w = .ok .skip w' := by simp [execOp, ho, Sem.run_bind, h1]
     unfold Oper.wp; rw [hr]; refine ⟨⟨c', ?_, rH a _ _⟩, fun hk => ?_⟩
     · rw [vP]; exact h2
     · simp [kindOk, ho] at hk
 | call cl =>
   obtain ⟨callee, args, Pk⟩ := cl
   cases callee with
   | invoke r n => simp [ho, N.val] at hv
   | value x =>
     cases x with
     | func f => simp [ho, Op.Jh] at hf
     | tmp f => simp [ho, Op.Jh] at hf
     | _ => simp [ho, N.val] at hv
   | builtin b =>
     simp only [ho] at hv; have KG : ∀ x y, args.toList = [x, y] → args = #[x, y] := fun x y e => by rw [← Array.toArray_toList (xs := args), e]
     split at hv
     · simp [ho] at hp
     · rename_i x y t u ha ht; obtain ⟨htu, Cp⟩ := fl hv; have htu := Nat.eq_of_beq_eq_true htu; subst htu; have ha := KG x y ha; have ht : Pk = #[t, t] := by rw [← Array.toArray_toList (xs := Pk), ht]
       subst ha ht; obtain ⟨v, w', h1, c', h2⟩ := Jb (ty := o.type) hT h (bY h x) (bY h y) Cp hd; exact x4 (c' := c') (by simp only [execOp, ho]; simp [resolve, invoke, builtin, Sem.run_bind, h1]) h2 (fun hk => by simp [kindOk, ho] at hk)
     · simp [ho] at hp
     · simp [ho] at hp
     · simp [ho] at hp
     · simp [N.val] at hv
 | move _ => simp [ho] at hp
 | assign _ => simp [ho] at hp
 | pick _ _ _ => simp [ho] at hp
 | build _ _ => simp [ho] at hp
 | nilCheck _ => simp [ho] at hp
 | binOp _ _ _ _ _ => simp [ho] at hp
 | unOp _ _ _ => simp [ho] at hp
 | convert t1 t2 x =>
   simp only [ho] at hv hp; have hx := bY h x
   split at hv
   · rename_i hq; simp [hq] at hp
   · rename_i hq; simp [hq] at hp
   · rename_i cx h1 h2 hq
     split at hv
     · rename_i b he; rw [hq] at hx; obtain ⟨ys, h3, h4⟩ := Bs h hx hv; simp only [N.val, Option.some.injEq] at h3; subst h3; obtain ⟨e, i, z, g1, g2, g3, g4, g5, _⟩ := hT.elem _ _ _ he; obtain ⟨d2, q2, e2⟩ := hT.kind _ _ h2; simp only [descOf] at e2; subst e2; have hu8 : P.underlying e = some (.int .u8) := hT.u8 t1 e b he g1; have hr := LC (P := P) h4; refine one (.string (bytesOf ys)) w ⟨c, h.bj (v := .one (.str (bytesOf ys))) rfl hd⟩ (ji.refl w) ?_; simp only [execOp, ho]; refine rI ?_; rcases h4 with ⟨hn, _⟩ | ⟨a0, cap, hn, _⟩
       · rw [hn] at hr ⊢; rw [run_convert_bytes_string w t1 t2 e none 0 0 g1 hu8 q2]; exact hr
       · rw [hn] at hr ⊢; rw [run_convert_bytes_string w t1 t2 e (some a0) _ cap g1 hu8 q2]; exact hr
     · simp [N.val] at hv
   · simp [N.val] at hv
 | slice _ _ _ _ _ => simp [ho] at hp
 | fieldAddr _ _ _ => simp [ho] at hp
 | indexAddr _ _ _ => simp [ho] at hp
 | index _ _ _ => simp [ho] at hp
 | extract _ _ => simp [ho] at hp
 | field _ _ _ => simp [ho] at hp
 | _ => simp [ho, N.val] at hv
end Go.TM
namespace Go.TM
open Go Go.RowKit
def sI (P : Program) (T : lZ) (S : kK) (w0 : World) (mu : Mu) (n : Nat) : Prop :=
 ∀ {c : Cz} {st bh : St} {a : Act} {w : World} {o : Oper}, Rel w0 mu c st a w → a.tmps.size = n → (∀ k, o.dst = some k → k < n) → (Ku T S st o).val = some bh → xK P w0 mu bh o a w (kindOk S st o .one)
theorem C4 (a : Act) (d : Nat) (v : Value) (hd : d < a.tmps.size) (h : a.eval (.tmp d) = v) : a.put (some d) v = a := by
 obtain ⟨tm, df⟩ := a; simp only [Act.put, Act.mk.injEq, and_true]; simp only [Act.eval, Array.getD_eq_getD_getElem?, Array.getElem?_eq_getElem hd, Option.getD_some] at h; apply Array.ext
 · simp
 · intro i h1 h2; rw [Array.getElem_setIfInBounds h2]
   split
   · rename_i e; subst e; exact h.symm
   · rfl
theorem xa {w0 : World} {mu : Mu} {c : Cz} {st : St} {a : Act} {w : World} (h : Rel w0 mu c st a w) {d : Nat} {b : Bool} (hg : da st d = .one (.bool b)) :
   d < a.tmps.size ∧ a.eval (.tmp d) = .bool b := by
 have h1 := h.gJ d; rw [hg] at h1; have h1 : a.eval (.tmp d) = .bool b := h1; refine ⟨?_, h1⟩; rcases Nat.lt_or_ge d a.tmps.size with h2 | h2
 · exact h2
 · simp [Act.eval, Array.getD_eq_getD_getElem?, Array.getElem?_eq_none h2, undef] at h1
theorem Rel.Xe {w0 : World} {mu : Mu} {c : Cz} {st : St} {a : Act} {w : World} (h : Rel w0 mu c st a w) {d : Nat} {b : Bool} (hg : da st d = .one (.bool b)) :
   Rel w0 mu c (TM.bj st (some d) (.one (.bool b))) a w := by
 obtain ⟨h1, h2⟩ := xa h hg; have := h.bj (d := some d) (v := .one (.bool b)) (u := .bool b) rfl (fun t e => by cases e; exact h1)
 rwa [C4 a d _ h1 h2] at this
theorem C5 {ops : Array Oper} {a : Act} {j d : Nat} {b : Bool} (hj : (nth ops.toList j).bind (·.dst) = some d) (hd : d < a.tmps.size) (h : a.eval (.tmp d) = .bool b) : yielded ops a.tmps j = some b := by
 rw [gO, Array.getElem?_toList] at hj; unfold yielded; rw [hj]; simp only [Act.eval, Array.getD_eq_getD_getElem?, Array.getElem?_eq_getElem hd, Option.getD_some] at h; simp [Array.getElem?_eq_getElem hd, h]
theorem xc : (st : St) → (d : Nat) → {v : V} → da st d = v → TM.bj st (some d) v = st
 | [], _, _, _ => rfl
 | s :: l, 0, v, h => by
   have h : s.v = v := h; subst h; rfl
 | s :: l, d + 1, v, h => congrArg (s :: ·) (xc l d h)
theorem Hm {S : kK} {st : St} {o : Oper} {d : Nat} {b : Bool} {k : Kd} (h : da st d = .one (.bool b)) : kindOk S (TM.bj st (some d) (.one (.bool b))) o k = kindOk S st o k := by
 rw [xc st d h]
theorem xd (c : Cz) (st : St) (w : World) : fY c st w (.ot []) undef := ⟨#[], rfl, rfl, fun i x y hx => by simp at hx⟩
theorem xL {ops : Array Oper} {a : Act} {j d : Nat} (hj : (nth ops.toList j).bind (·.dst) = some d) (h : a.eval (.tmp d) = undef) : yielded ops a.tmps j = none := by
 rw [gO, Array.getElem?_toList] at hj; unfold yielded; rw [hj]; simp only [Act.eval, Array.getD_eq_getD_getElem?] at h
 cases ht : a.tmps[d]? with
 | none => simp [ht]
 | some v =>
   rw [ht] at h; simp only [Option.getD_some] at h; subst h; simp [ht, undef]
theorem C6 {w0 : World} {mu : Mu} {c : Cz} {st : St} {a : Act} {w : World} (h : Rel w0 mu c st a w) {d : Nat} (hg : da st d = .ot []) : a.eval (.tmp d) = undef := by
 have h1 := h.gJ d; rw [hg] at h1; obtain ⟨vs, e, hl, _⟩ := h1; have : vs = #[] := Array.eq_empty_of_size_eq_zero hl.symm; rw [e, this]; rfl
theorem Hn {P : Program} {T : lZ} {S : kK} {w0 : World} {mu : Mu} {n : Nat} (EF : sI P T S w0 mu n) {c : Cz} {st bh : St} {a : Act} {w : World} {ops : Array Oper} {o : Oper} (h : Rel w0 mu c st a w) (hn : a.tmps.size = n)
   (hd : ∀ k, o.dst = some k → k < n) (hv : (AF T S ops.toList st o).val = some bh) :
   (Region.wanted o (yielded ops a.tmps) = true ∧ xK P w0 mu bh o a w (kindOk S st o .one)) ∨ (Region.wanted o (yielded ops a.tmps) = false ∧ Rel w0 mu c bh (a.put o.dst undef) w) := by
 unfold AF at hv; unfold Region.wanted
 cases hg : o.guard with
 | none =>
   simp only [hg] at hv ⊢; exact .inl ⟨trivial, EF h hn hd hv⟩
 | some p =>
   obtain ⟨j, want⟩ := p; simp only [hg] at hv ⊢
   cases hj : (nth ops.toList j).bind (·.dst) with
   | none => simp [hj, N.val] at hv
   | some d =>
     simp only [hj] at hv
     split at hv
     · rename_i b ND; obtain ⟨h1, h2⟩ := xa h ND; have hy := C5 (ops := ops) hj h1 h2; rw [hy]; have hk := h.Xe ND; have yes : (Ku T S (TM.bj st (some d) (.one (.bool b))) o).val = some bh → xK P w0 mu bh o a w (kindOk S st o .one) := fun e => (Hm ND) ▸ EF hk hn hd e
       have no : (N.done (TM.bj (TM.bj st (some d) (.one (.bool b))) o.dst (.ot []))).val = some bh → Rel w0 mu c bh (a.put o.dst undef) w := by
         intro e; simp only [N.val, Option.some.injEq] at e; subst e; exact hk.bj (xd _ _ _) (fun k Bt => by rw [hn]; exact hd k Bt)
       rcases wh hv with ⟨hb, Cp⟩ | ⟨hb, Cp⟩
       · subst hb
         cases want
         · exact .inr ⟨rfl, no Cp⟩
         · exact .inl ⟨rfl, yes Cp⟩
       · subst hb
         cases want
         · exact .inl ⟨rfl, yes Cp⟩
         · exact .inr ⟨rfl, no Cp⟩
     · rename_i ND; simp only [N.val, Option.some.injEq] at hv; subst hv; rw [xL (ops := ops) hj (C6 h ND)]; exact .inr ⟨by cases want <;> rfl, h.bj (xd _ _ _) (fun k Bt => by rw [hn]; exact hd k Bt)⟩
     · simp [N.val] at hv
def x5 (n : Nat) (ops : List Oper) : Bool := ops.all fun o => match o.dst with | some k => Nat.blt k n | none => true
theorem AI {n : Nat} {ops : List Oper} (h : x5 n ops = true) {o : Oper} (ho : o ∈ ops) : ∀ k, o.dst = some k → k < n := by
 intro k hk; have := List.all_eq_true.1 h o ho; rw [hk] at this; exact Nat.le_of_ble_eq_true this
def Next {R : Type} (w0 : World) (mu : Mu) (n : Nat) (r : R) (k : St → Option R) (K : Act → World → Prop) : Prop :=
 ∀ {c : Cz} {st : St} {a : Act} {w : World}, Rel w0 mu c st a w → a.tmps.size = n → k st = some r → K a w
theorem Ge {R : Type} {P : Program} {T : lZ} {S : kK} {w0 : World} {mu : Mu} {n : Nat} (EF : sI P T S w0 mu n) {ops : Array Oper} {Q : Exit → Act → World → Prop} {k : St → Option R} {r : R} (hk : Next w0 mu n r k (Q .normal)) :
   (l : List Oper) → x5 n l = true → {c : Cz} → {st : St} → {a : Act} → {w : World} → Rel w0 mu c st a w → a.tmps.size = n → Py T S ops.toList l st k = some r → wpList P ops Q l a w
 | [], _, _, _, _, _, h, hn, hv => hk h hn hv
 | o :: l, hl, c, st, a, w, h, hn, hv => by
   unfold Py at hv; rw [N.fold_eq] at hv; obtain ⟨bh, h1, h2⟩ := Option.bind_eq_some_iff.1 hv; have hd := AI hl (o := o) List.mem_cons_self; have xG : x5 n l = true := by
     unfold x5 at hl ⊢; rw [List.all_cons, Bool.and_eq_true] at hl; exact hl.2
   refine wpList_step fun K hK => ?_
   rcases Hn EF h hn hd h1 with ⟨hw, hs⟩ | ⟨hw, hs⟩
   · rw [if_pos hw]; refine Oper.wp_mono (fun a' w' ⟨⟨c', hr, mm⟩, _⟩ => hK a' w' ?_) (hs Q); exact Ge EF hk l xG hr (mm.trans hn) h2
   · rw [if_neg (by rw [hw]; decide)]; exact hK _ _ (Ge EF hk l xG hs ((rH _ _ _).trans hn) h2)
def Ex.go : Ex → Exit
 | .normal => .normal
 | .exit n => .exit n
 | .ret => .ret
def KH {R : Type} (w0 : World) (mu : Mu) (n : Nat) (r : R) (k : Ex → St → Option R) (Q : Exit → Act → World → Prop) : Prop :=
 ∀ {e : Ex} {c : Cz} {st : St} {a : Act} {w : World}, Rel w0 mu c st a w → a.tmps.size = n → k e st = some r → Q e.go a w
def fM (n : Nat) : Code → Bool
 | .region _ ops _ => x5 n ops.toList
 | .seq a b => fM n a && fM n b
 | .cond _ a b => fM n a && fM n b
 | .block _ a => fM n a
 | .loop a => fM n a
 | _ => true
def mT {R : Type} (P : Program) (w0 : World) (mu : Mu) (n : Nat) (L : nc R) (r : R) (id : Nat) (b : Code) : Prop :=
 ∀ {k : Ex → St → Option R} {Q : Exit → Act → World → Prop}, KH w0 mu n r k Q → ∀ {c : Cz} {st : St} {a : Act} {w : World}, Rel w0 mu c st a w → a.tmps.size = n →
   L id b st k = some r → (Code.block id (.loop b)).wp P Q a w
def ej (ok : Nat → Code → Prop) : Code → Prop
 | .seq a b => ej ok a ∧ ej ok b
 | .cond _ a b => ej ok a ∧ ej ok b
 | .block id (.loop b) => ok id b
 | .block _ a => ej ok a
 | _ => True
def rj (R : Type) (P : Program) (T : lZ) (S : kK) (D : kP) (w0 : World) (mu : Mu) (n : Nat) (ok : Nat → Array Oper → Prop) : Prop :=
 ∀ {id : Nat} {ops : Array Oper} {Q : Exit → Act → World → Prop} {k : St → Option R} {r : R}, ok id ops → x5 n ops.toList = true → Next w0 mu n r k (Q .normal) → ∀ {c : Cz} {st : St} {a : Act} {w : World}, Rel w0 mu c st a w → a.tmps.size = n →
   sZ T S ops.toList (D id) st k = some r → (Code.region id ops true).wp P Q a w
def eN (ok : Nat → Array Oper → Prop) : Code → Prop
 | .region id ops true => ok id ops
 | .seq a b => eN ok a ∧ eN ok b
 | .cond _ a b => eN ok a ∧ eN ok b
 | .block _ (.loop _) => True
 | .block _ a => eN ok a
 | _ => True
theorem zv {R : Type} {P : Program} {T : lZ} {S : kK} {D : kP} {L : nc R} {w0 : World} {mu : Mu} {n : Nat} {r : R} {ok : Nat → Array Oper → Prop} (EF : sI P T S w0 mu n) (hD : rj R P T S D w0 mu n ok) :
   (cd : Code) → fM n cd = true → ej (mT P w0 mu n L r) cd → eN ok cd → {k : Ex → St → Option R} → {Q : Exit → Act → World → Prop} → KH w0 mu n r k Q →
   {c : Cz} → {st : St} → {a : Act} → {w : World} → Rel w0 mu c st a w → a.tmps.size = n → fD T S D L cd st k = some r → cd.wp P Q a w := by
 intro cd
 induction cd with
 | skip =>
   intro _ _ _ k Q hk c st a w h hn hv; unfold fD at hv; exact wp_skip (hk h hn hv)
 | region id ops draw =>
   intro hd hL hw k Q hk c st a w h hn hv
   cases draw with
   | false =>
     unfold fD at hv; exact wp_region_list (Ge EF (Q := Q) (k := fun bh => k .normal bh) (fun h1 h2 h3 => hk h1 h2 h3) ops.toList hd h hn hv)
   | true =>
     unfold fD at hv; exact hD hw hd (k := fun bh => k .normal bh) (fun h1 h2 h3 => hk h1 h2 h3) h hn hv
 | seq x y ihx ihy =>
   intro hd hL hw k Q hk c st a w h hn hv; unfold fD at hv; unfold fM at hd; rw [Bool.and_eq_true] at hd; refine wp_seq (ihx hd.1 hL.1 hw.1 (fun {e} {c} {st} {a} {w} h1 h2 h3 => ?_) h hn hv)
   cases e with
   | normal => exact ihy hd.2 hL.2 hw.2 hk h1 h2 h3
   | exit m => exact hk h1 h2 h3
   | ret => exact hk h1 h2 h3
 | cond x y z ihy ihz =>
   intro hd hL hw k Q hk c st a w h hn hv; unfold fM at hd; rw [Bool.and_eq_true] at hd
   cases x with
   | tmp t =>
     unfold fD at hv
     split at hv
     · rename_i b hg; obtain ⟨_, h2⟩ := xa h hg; have hkn := h.Xe hg
       cases b with
       | true => exact wp_cond_true h2 (ihy hd.1 hL.1 hw.1 hk hkn hn hv)
       | false => exact wp_cond_false h2 (ihz hd.2 hL.2 hw.2 hk hkn hn hv)
     · cases hv
   | _ => unfold fD at hv; cases hv
 | block id b ih =>
   intro hd hL hw k Q hk c st a w h hn hv
   by_cases hb : ∃ b', b = .loop b'
   · obtain ⟨b', rfl⟩ := hb; unfold fD at hv; exact hL hk h hn hv
   · have oz : fD T S D L b st (fun e bh => match e with
         | .exit n => bif Nat.beq n id then k .normal bh else k (.exit n) bh
         | e => k e bh) = some r := by
       cases b with
       | loop b' => exact absurd ⟨b', rfl⟩ hb
       | _ => unfold fD at hv; exact hv
     have hw' : eN ok b := by
       cases b with
       | loop b' => exact absurd ⟨b', rfl⟩ hb
       | _ => unfold eN at hw; exact hw
     have hL' : ej (mT P w0 mu n L r) b := by
       cases b with
       | loop b' => exact absurd ⟨b', rfl⟩ hb
       | _ => unfold ej at hL; exact hL
     refine wp_block (ih hd hL' hw' (fun {e} {c} {st} {a} {w} h1 h2 h3 => ?_) h hn oz)
     cases e with
     | normal => exact hk h1 h2 h3
     | ret => exact hk h1 h2 h3
     | exit m =>
       simp only at h3; unfold Exit.inBlock; simp only [Ex.go]
       cases hm : Nat.beq m id with
       | true =>
         rw [hm] at h3; rw [if_pos (Nat.eq_of_beq_eq_true hm)]; exact hk h1 h2 h3
       | false =>
         rw [hm] at h3; rw [if_neg (Nat.ne_of_beq_eq_false hm)]; exact hk (e := .exit m) h1 h2 h3
 | exit id =>
   intro _ _ _ k Q hk c st a w h hn hv; unfold fD at hv; exact wp_exit (hk h hn hv)
 | ret =>
   intro _ _ _ k Q hk c st a w h hn hv; unfold fD at hv; exact wp_ret (hk h hn hv)
 | _ =>
   intro _ _ _ k Q hk c st a w h hn hv; unfold fD at hv
   cases hv
end Go.TM
namespace Go.TM
open Go Go.RowKit
def OwnAt (c : Cz) (w : World) (l : Lb) (lc : Loc) (A : iN) (v : Value) : Prop :=
 v.oneCell' = true ∧ jJ lc A.r.width 0 A.xs.length v ∧ A.own = true ∧
 match lc with
 | .nil => A.xs = []
 | .at b off cap => c.own b = some l ∧ A.xs.length ≤ cap ∧ (∃ cur ty, w.heap[b]? = some (.cells cur ty (0, 0)) ∧ off + cap * A.r.width ≤ cur.size) ∧
     cf c w l A b off
def bT (c : Cz) (w : World) (f : Nat → Lb) : (j : Nat) → List OV → List Value → Prop
 | _, [], vs => vs = []
 | j, .int k n :: os, vs => ∃ l, vs = .int k n :: l ∧ bT c w f (j + 1) os l
 | j, .bool b :: os, vs => ∃ l, vs = .bool b :: l ∧ bT c w f (j + 1) os l
 | j, .str s :: os, vs => ∃ l, vs = .string s :: l ∧ bT c w f (j + 1) os l
 | j, .eI :: os, vs => ∃ l, vs = .slice none 0 0 :: l ∧ bT c w f (j + 1) os l
 | j, .shr r xs :: os, vs => ∃ v l, vs = v :: l ∧ cw w c.ok (.sl r) v xs ∧ bT c w f (j + 1) os l
 | j, .own A :: os, vs => ∃ v l, vs = v :: l ∧ (∃ lc, OwnAt c w (f j) lc A v) ∧ bT c w f (j + 1) os l
 | j, .mH r xs :: os, vs => ∃ v l, vs = v :: l ∧ E3 w c.ok r v xs ∧ bT c w f (j + 1) os l
 | j, .fn g rs xs :: os, vs => ∃ v l, vs = v :: l ∧ FnAt w c.ok g rs v xs ∧ bT c w f (j + 1) os l
def Fb (c : Cz) (w : World) (i : Nat) (os : List OV) (v : Value) : Prop :=
 ∃ oK vs ty, v = .pointer (some ⟨oK, 0, none⟩) ∧ c.own oK = some (.tg i) ∧ w.heap[oK]? = some (.cells vs ty (0, 0)) ∧ bT c w (.cA i) 0 os vs.toList
def NF (c : Cz) (w : World) (i : Nat) (lc : Nat → Loc) (j : Nat) (o : OV) (u : Value) : Prop :=
 match o with
 | .own A => OwnAt c w (.cA i j) (lc j) A u
 | .eI => lc j = .nil
 | _ => True
def sJ (c : Cz) (w : World) (i : Nat) (lc : Nat → Loc) : AV → Value → Prop
 | .val false os, v => bT c w (.cA i) 0 os [v]
 | .val true os, v => ∃ vs, v = .agg vs ∧ bT c w (.cA i) 0 os vs.toList
 | .io A, v => OwnAt c w (.cA i 0) (lc 0) A v
 | .box os, v => Fb c w i os v
 | .bW os, v => ∃ vs, v = .agg vs ∧ bT c w (.cA i) 0 os vs.toList ∧ ∀ j o u, os[j]? = some o → vs.toList[j]? = some u → NF c w i lc j o u
def x6 (c : Cz) (w : World) (lc : Nat → Nat → Loc) : (i : Nat) → List AV → List Value → Prop
 | _, [], vs => vs = []
 | i, a :: as, vs => ∃ v l, vs = v :: l ∧ sJ c w i (lc i) a v ∧ x6 c w lc (i + 1) as l
def KI (c : Cz) (w : World) (i : Nat) (lc : Nat → Loc) (os : List OV) (us : List Value) (As : List (Option iN)) : Prop :=
 ∀ j A, os[j]? = some (.own A) → ∃ B u, nth As j = some (some B) ∧ us[j]? = some u ∧ B.r.width = A.r.width ∧ B.xs.length = A.xs.length ∧ OwnAt c w (.cA i j) (lc j) B u
def iR (c : Cz) (w : World) (lc : Nat → Nat → Loc) : (i : Nat) → List AV → List Value → List XV → Prop
 | _, [], _, xs => xs = []
 | _, _ :: _, [], _ => False
 | i, .val _ _ :: as, _ :: vs, xs => iR c w lc (i + 1) as vs xs
 | i, .io A :: as, v :: vs, xs => ∃ B l, xs = .io B :: l ∧ B.r.width = A.r.width ∧ B.xs.length = A.xs.length ∧ OwnAt c w (.cA i 0) (lc i 0) B v ∧ iR c w lc (i + 1) as vs l
 | i, .box _ :: as, v :: vs, xs => ∃ os l, xs = .box os :: l ∧ Fb c w i os v ∧ iR c w lc (i + 1) as vs l
 | i, .bW os :: as, v :: vs, xs => ∃ As l, xs = .bW As :: l ∧ (∃ us, v = .agg us ∧ KI c w i (lc i) os us.toList As) ∧ iR c w lc (i + 1) as vs l
def l9 (c : Cz) (w : World) : (j : Nat) → List RV → List Value → Prop
 | _, [], vs => vs = []
 | j, .one o :: rs, vs => ∃ v l, vs = v :: l ∧ bT c w .jc j [o] [v] ∧ l9 c w (j + 1) rs l
 | j, .agg os :: rs, vs => ∃ us l, vs = .agg us :: l ∧ bT c w .jc j os us.toList ∧ l9 c w (j + os.length) rs l
 | j, .ptr os :: rs, vs => ∃ v l, vs = v :: l ∧ (∃ oK us ty, v = .pointer (some ⟨oK, 0, none⟩) ∧ c.own oK = some (.jc j) ∧ w.heap[oK]? = some (.cells us ty (0, 0)) ∧ bT c w .jc (j + 1) os us.toList) ∧ l9 c w (j + (os.length + 1)) rs l
def rJ (c : Cz) (w : World) (rs : List RV) (v : Value) : Prop :=
 (∃ r, rs = [r] ∧ l9 c w 0 [r] [v]) ∨ (rs.length ≠ 1 ∧ ∃ vs, v = .tuple vs ∧ l9 c w 0 rs vs.toList)
structure By (w0 : World) (mu : Mu) (c : Cz) (w : World) : Prop where
 owned : ∀ b l, c.own b = some l → b < w.heap.size ∧ (l = .out ∨ w0.heap.size ≤ b ∨ mu.m b)
 free : ∀ b, b < w0.heap.size → c.own b = none → mu.m b ∨ mu.ok b
 kept : w.os = w0.os ∧ w.tape = w0.tape ∧ w.output = w0.output ∧ w0.heap.size ≤ w.heap.size
 old : ∀ k, k < w0.heap.size → ¬ mu.m k → w.heap[k]? = w0.heap[k]?
def Lb.kL : Lb → Bool
 | .cA _ _ => true
 | .tg _ => true
 | _ => false
structure Handed (c : Cz) (w : World) (mu : Mu) : Prop where
 m : ∀ b, mu.m b ↔ ∃ l, c.own b = some l ∧ l.kL = true
 ok : ∀ b, mu.ok b ↔ c.own b = none
 lt : ∀ b l, c.own b = some l → b < w.heap.size
 lb : ∀ b l, c.own b = some l → l = .out ∨ l.kL = true
def FnOk (P : Program) (f : FuncId) (Bo : vW) : Prop :=
 ∀ (c : Cz) (w : World) (mu : Mu) (lc : Nat → Nat → Loc) (eg : List AV) (args : Array Value) (A : Ans) (x : aq A.r), Handed c w mu → x6 c w lc 0 eg args.toList → Bo eg = some A → A.o = some x →
   Calls P f args w fun e w' => ∃ v, e = .returned v ∧ ∃ c', By w mu c' w' ∧ rJ c' w' (A.res x).outs v ∧ iR c' w' lc 0 eg args.toList (A.res x).exts
mutual
theorem cw.plain {w : World} {ok ze : Nat → Prop} : (t : Ty) → (v : Value) → (x : den t) → RT.eQ (.cons t .nil) = false → cw w ok t v x → cw w ze t v x
 | .int _, _, _, _, h => by unfold cw at h ⊢; exact h
 | .bool, _, _, _, h => by unfold cw at h ⊢; exact h
 | .str, _, _, _, h => by unfold cw at h ⊢; exact h
 | .sl _, _, _, hs, _ => by simp [RT.eQ] at hs
theorem dw.plain {w : World} {ok ze : Nat → Prop} : (r : RT) → (b off : Nat) → (x : aq r) → r.eQ = false → dw w ok r b off x → dw w ze r b off x
 | .nil, _, _, _, _, _ => by unfold dw; trivial
 | .cons t r, b, off, x, hs, h => by
   unfold dw at h ⊢; obtain ⟨⟨v, h1, h2⟩, h3⟩ := h; refine ⟨⟨v, h1, cw.plain t v x.1 ?_ h2⟩, dw.plain r b (off + 1) x.2 ?_ h3⟩
   · cases t <;> simp_all [RT.eQ]
   · cases t <;> simp_all [RT.eQ]
end
structure Pass (c c' : Cz) (pd : Lb → Prop) : Prop where
 cA : ∀ b l, pd l → c.own b = some l → c'.own b = some l
 ok : ∀ b, c.ok b → c'.ok b
theorem OwnAt.pass {c c' : Cz} {w : World} {l : Lb} {lc : Loc} {A : iN} {v : Value} (hp : ∀ b, c.own b = some l → c'.own b = some l) (ho : (∀ b, c.ok b → c'.ok b) ∨ (!A.r.eQ || A.md.is .dp) = true) (h : OwnAt c w l lc A v) : OwnAt c' w l lc A v := by
 unfold OwnAt at h ⊢; obtain ⟨h1, h2, h3, h4⟩ := h; refine ⟨h1, h2, h3, ?_⟩
 cases lc with
 | nil => exact h4
 | «at» b off cap =>
   obtain ⟨g1, g2, g3, g4⟩ := h4; refine ⟨hp b g1, g2, g3, ?_⟩
   by_cases PF : A.md = .sh ∧ A.r.eQ = false
   · exact (cf.sh PF.1).2 fun i x hx => dw.plain _ _ _ _ PF.2 ((cf.sh PF.1).1 g4 i x hx)
   · refine g4.go (fun hm => ?_) rfl (fun _ k hk => ⟨rfl, hp k hk⟩); rcases ho with ho | ho
     · exact ⟨Nat.le_refl _, fun _ _ _ => rfl, fun b _ h => ho b h⟩
     · rw [hm] at ho; simp [Md.is] at ho; exact absurd ⟨hm, ho⟩ PF
theorem bT.pass {c c' : Cz} {w : World} {f : Nat → Lb} (hp : ∀ b j, c.own b = some (f j) → c'.own b = some (f j)) : (os : List OV) → ((∀ b, c.ok b → c'.ok b) ∨ os.all OV.plain = true) → (j : Nat) → (vs : List Value) → bT c w f j os vs → bT c' w f j os vs
 | [], _, _, _, h => h
 | .int k n :: os, ho, j, vs, h => by
   obtain ⟨l, h1, h2⟩ := h; exact ⟨l, h1, bT.pass hp os (ho.imp id fun h => by simp at h; simpa using h.2) (j + 1) l h2⟩
 | .bool k :: os, ho, j, vs, h => by
   obtain ⟨l, h1, h2⟩ := h; exact ⟨l, h1, bT.pass hp os (ho.imp id fun h => by simp at h; simpa using h.2) (j + 1) l h2⟩
 | .str k :: os, ho, j, vs, h => by
   obtain ⟨l, h1, h2⟩ := h; exact ⟨l, h1, bT.pass hp os (ho.imp id fun h => by simp at h; simpa using h.2) (j + 1) l h2⟩
 | .eI :: os, ho, j, vs, h => by
   obtain ⟨l, h1, h2⟩ := h; exact ⟨l, h1, bT.pass hp os (ho.imp id fun h => by simp at h; simpa using h.2) (j + 1) l h2⟩
 | .shr r xs :: os, ho, j, vs, h => by
   obtain ⟨v, l, h1, h2, h3⟩ := h; refine ⟨v, l, h1, ?_, bT.pass hp os (ho.imp id fun h => by simp at h; simpa using h.2) (j + 1) l h3⟩; rcases ho with ho | ho
   · exact cw.stays ⟨Nat.le_refl _, fun _ _ _ => rfl, fun b _ h => ho b h⟩ _ _ _ h2
   · simp [OV.plain] at ho
 | .mH r xs :: os, ho, j, vs, h => by
   obtain ⟨v, l, h1, h2, h3⟩ := h; refine ⟨v, l, h1, ?_, bT.pass hp os (ho.imp id fun h => by simp at h; simpa using h.2) (j + 1) l h3⟩; rcases ho with ho | ho
   · exact h2.stays ⟨Nat.le_refl _, fun _ _ _ => rfl, fun b _ h => ho b h⟩
   · simp [OV.plain] at ho
 | .fn g rs xs :: os, ho, j, vs, h => by
   obtain ⟨v, l, h1, h2, h3⟩ := h; refine ⟨v, l, h1, ?_, bT.pass hp os (ho.imp id fun h => by simp at h; simpa using h.2) (j + 1) l h3⟩; rcases ho with ho | ho
   · exact h2.stays ⟨Nat.le_refl _, fun _ _ _ => rfl, fun b _ h => ho b h⟩
   · simp [OV.plain] at ho
 | .own A :: os, ho, j, vs, h => by
   obtain ⟨v, l, h1, ⟨lc, h2⟩, h3⟩ := h; refine ⟨v, l, h1, ⟨lc, h2.pass (fun b => hp b j) (ho.imp id fun h => ?_)⟩, bT.pass hp os (ho.imp id fun h => by simp at h; simpa using h.2) (j + 1) l h3⟩; rw [List.all_cons, Bool.and_eq_true] at h; exact h.1
theorem Fb.pass {c c' : Cz} {w : World} {i : Nat} {os : List OV} {v : Value} (hb : ∀ b, c.own b = some (.tg i) → c'.own b = some (.tg i)) (hp : ∀ b j, c.own b = some (.cA i j) → c'.own b = some (.cA i j)) (ho : (∀ b, c.ok b → c'.ok b) ∨ os.all OV.plain = true) (h : Fb c w i os v) : Fb c' w i os v := by
 obtain ⟨oK, vs, ty, h1, h2, h3, h4⟩ := h; exact ⟨oK, vs, ty, h1, hb _ h2, h3, bT.pass hp os ho 0 _ h4⟩
theorem l9.pass {c c' : Cz} {w : World} (hp : ∀ b j, c.own b = some (.jc j) → c'.own b = some (.jc j)) : (rs : List RV) → ((∀ b, c.ok b → c'.ok b) ∨ rs.all (fun o => o.vV.all OV.plain) = true) → (j : Nat) → (vs : List Value) → l9 c w j rs vs → l9 c' w j rs vs
 | [], _, _, _, h => h
 | .one o :: rs, ho, j, vs, h => by
   obtain ⟨v, l, h1, h2, h3⟩ := h; exact ⟨v, l, h1, bT.pass hp [o] (ho.imp id fun h => by simp [RV.vV] at h; simpa using h.1) _ _ h2, l9.pass hp rs (ho.imp id fun h => by simp at h; simpa using h.2) _ _ h3⟩
 | .agg os :: rs, ho, j, vs, h => by
   obtain ⟨v, l, h1, h2, h3⟩ := h; exact ⟨v, l, h1, bT.pass hp os (ho.imp id fun h => by simp [RV.vV] at h; simpa using h.1) _ _ h2, l9.pass hp rs (ho.imp id fun h => by simp at h; simpa using h.2) _ _ h3⟩
 | .ptr os :: rs, ho, j, vs, h => by
   obtain ⟨v, l, h1, ⟨oK, us, ty, g1, g2, g3, g4⟩, h3⟩ := h; exact ⟨v, l, h1, ⟨oK, us, ty, g1, hp _ _ g2, g3, bT.pass hp os (ho.imp id fun h => by simp [RV.vV] at h; simpa using h.1.2) _ _ g4⟩, l9.pass hp rs (ho.imp id fun h => by simp at h; simpa using h.2) _ _ h3⟩
theorem rJ.pass {c c' : Cz} {w : World} (hp : ∀ b j, c.own b = some (.jc j) → c'.own b = some (.jc j)) {rs : List RV} (ho : (∀ b, c.ok b → c'.ok b) ∨ rs.all (fun o => o.vV.all OV.plain) = true) {v : Value} (h : rJ c w rs v) : rJ c' w rs v := by
 rcases h with ⟨r, h1, h2⟩ | ⟨h1, vs, h2, h3⟩
 · subst h1; exact .inl ⟨r, rfl, l9.pass hp _ ho _ _ h2⟩
 · exact .inr ⟨h1, vs, h2, l9.pass hp _ ho _ _ h3⟩
theorem KI.pass {c c' : Cz} {w : World} {i : Nat} {lc : Nat → Loc} {os : List OV} {us : List Value} {As : List (Option iN)} (hp : ∀ b j, c.own b = some (.cA i j) → c'.own b = some (.cA i j)) (ho : (∀ b, c.ok b → c'.ok b) ∨ XV.plain (.bW As) = true) (h : KI c w i lc os us As) : KI c' w i lc os us As := by
 intro j A hA; obtain ⟨B, u, h1, h2, h3, h4, h5⟩ := h j A hA; refine ⟨B, u, h1, h2, h3, h4, h5.pass (fun b => hp b j) (ho.imp id fun h => ?_)⟩; have hm : some B ∈ As := by rw [gO] at h1; exact List.mem_of_getElem? h1
 have := List.all_eq_true.1 h _ hm; simpa using this
theorem iR.pass {c c' : Cz} {w : World} {lc : Nat → Nat → Loc} : (as : List AV) → (i : Nat) → (hb : ∀ b k, i ≤ k → c.own b = some (.tg k) → c'.own b = some (.tg k)) → (hp : ∀ b k j, i ≤ k → c.own b = some (.cA k j) → c'.own b = some (.cA k j)) → (vs : List Value) → (xs : List XV) → ((∀ b, c.ok b → c'.ok b) ∨ xs.all XV.plain = true) → iR c w lc i as vs xs → iR c' w lc i as vs xs
 | [], _, _, _, _, _, _, h => h
 | _ :: _, _, _, _, [], _, _, h => h.elim
 | .val _ _ :: as, i, hb, hp, _ :: vs, xs, ho, h => iR.pass as (i + 1) (fun b k hk => hb b k (by omega)) (fun b k j hk => hp b k j (by omega)) vs xs ho h
 | .io A :: as, i, hb, hp, v :: vs, xs, ho, h => by
   obtain ⟨B, l, h1, h2, h3, h4, h5⟩ := h; subst h1; refine ⟨B, l, rfl, h2, h3, h4.pass (fun b => hp b i 0 (Nat.le_refl _)) (ho.imp id fun h => by rw [List.all_cons, Bool.and_eq_true] at h; exact h.1), iR.pass as (i + 1) (fun b k hk => hb b k (by omega)) (fun b k j hk => hp b k j (by omega)) vs l (ho.imp id fun h => by simp at h; simpa using h.2) h5⟩
 | .bW _ :: as, i, hb, hp, v :: vs, xs, ho, h => by
   obtain ⟨As, l, h1, ⟨us, h2, h3⟩, h4⟩ := h; subst h1; refine ⟨As, l, rfl, ⟨us, h2, h3.pass (fun b j => hp b i j (Nat.le_refl _)) (ho.imp id fun h => by rw [List.all_cons, Bool.and_eq_true] at h; exact h.1)⟩, iR.pass as (i + 1) (fun b k hk => hb b k (by omega)) (fun b k j hk => hp b k j (by omega)) vs l (ho.imp id fun h => by rw [List.all_cons, Bool.and_eq_true] at h; exact h.2) h4⟩
 | .box _ :: as, i, hb, hp, v :: vs, xs, ho, h => by
   obtain ⟨os, l, h1, h2, h3⟩ := h; subst h1; refine ⟨os, l, rfl, h2.pass (fun b => hb b i (Nat.le_refl _)) (fun b j => hp b i j (Nat.le_refl _)) (ho.imp id fun h => by simp [XV.plain] at h; simpa using h.1), iR.pass as (i + 1) (fun b k hk => hb b k (by omega)) (fun b k j hk => hp b k j (by omega)) vs l (ho.imp id fun h => by simp at h; simpa using h.2) h3⟩
end Go.TM
namespace Go.TM
open Go Go.RowKit
def Cz.map (c : Cz) (ρ : Lb → Option Lb) : Cz := { bx := c.bx, lc := c.lc, own := fun b => (c.own b).bind ρ }
theorem Cz.s5 {c : Cz} {ρ : Lb → Option Lb} {b : Nat} (h : c.ok b) : (c.map ρ).ok b := by
 unfold Cz.ok Cz.map at *; simp [h]
theorem Cz.map_some {c : Cz} {ρ : Lb → Option Lb} {b : Nat} {l : Lb} (h : (c.map ρ).own b = some l) : ∃ k, c.own b = some k ∧ ρ k = some l := by
 unfold Cz.map at h; exact Option.bind_eq_some_iff.1 h
theorem Cz.kR {c : Cz} {ρ : Lb → Option Lb} {b : Nat} {l : Lb} (h : c.own b = some l) : (c.map ρ).own b = ρ l := by
 unfold Cz.map; simp [h]
theorem cf.map {c : Cz} {w : World} {l l' : Lb} {A : iN} {b off : Nat} (h : cf c w l A b off) {ρ : Lb → Option Lb} (hρ : ρ l = some l') : cf (c.map ρ) w l' A b off :=
 h.go (fun _ => ⟨Nat.le_refl _, fun _ _ _ => rfl, fun b _ hb => Cz.s5 hb⟩) rfl (fun _ _ hk => ⟨rfl, (Cz.kR hk).trans hρ⟩)
theorem NG {c : Cz} {w : World} {s j : Nat} {A : iN} (h : cz c w s j A) (ho : A.own = true) {vw : View} {u : Value} (h1 : u.oneCell' = true) (hu : jJ (c.lc s j) A.r.width vw.lo (vw.app A.xs).length u)
   {ρ : Lb → Option Lb} {l : Lb} (hρ : ρ (.sp s j) = some l) (C7 : A.md.is .sh = true ∨ vw.isFull = true) : ∃ lc, OwnAt (c.map ρ) w l lc { A with xs := vw.app A.xs } u := by
 cases hl : c.lc s j with
 | nil =>
   unfold jJ at hu; rw [hl] at hu; exact ⟨.nil, h1, hu, ho, List.length_eq_zero_iff.1 hu.2⟩
 | «at» b off cap =>
   unfold jJ at hu; rw [hl] at hu; obtain ⟨a, k, rfl, hk, zg, ha⟩ := hu; unfold cz at h; rw [hl] at h; obtain ⟨h0, _, ⟨cur, ty, h3, h4⟩, h5⟩ := h; rw [ho] at h0; refine ⟨.at b (off + vw.lo * A.r.width) k, h1, ⟨a, k, rfl, hk, by omega, by simpa using ha⟩, ho, (Cz.kR h0).trans hρ, hk, ⟨cur, ty, h3, ?_⟩, ?_⟩
   · have : (vw.lo + k) * A.r.width ≤ cap * A.r.width := Nat.mul_le_mul_right _ zg; rw [Nat.add_mul] at this; show off + vw.lo * A.r.width + k * A.r.width ≤ cur.size; omega
   · have hmm : A.md = .ho ∨ A.md = .sh ∨ A.md = .dp := by cases A.md <;> simp
     rcases hmm with hm | hm | hm
     · unfold cf; show match A.md with | .sh => _ | .dp => _ | .ho => True; rw [hm]; trivial
     · refine cf.Nr hm fun i x hi => ?_
       have := (cf.sh hm).1 h5 _ x (View.w9 vw A.xs hi); have e : off + vw.lo * A.r.width + i * A.r.width = off + (vw.lo + i) * A.r.width := by rw [Nat.add_mul]; omega
       rw [e]; exact dw.stays ⟨Nat.le_refl _, fun _ _ _ => rfl, fun b _ hb => Cz.s5 hb⟩ _ _ _ x rfl this
     · have hf : vw = .full := by
         rcases C7 with C7 | C7
         · rw [hm] at C7; cases C7
         · cases vw with
           | full => rfl
           | «from» _ => cases C7
           | sub _ _ => cases C7
       subst hf; have := h5.go (c' := c.map ρ) (w' := w) (l' := l) (fun e => by rw [hm] at e; cases e) rfl (fun _ k hk => ⟨rfl, (Cz.kR hk).trans hρ⟩); simpa [View.lo, View.app] using this
theorem fX.Rk {c : Cz} {st : St} {w : World} {x : CV} {cs : List CV} {vs : List Value} (h : fX c st w (x :: cs) vs) : ∃ v l, vs = v :: l ∧ kX c st w x v ∧ fX c st w cs l := by
 obtain ⟨h1, h2⟩ := h
 cases vs with
 | nil => simp at h1
 | cons v l => exact ⟨v, l, rfl, h2 0 x v rfl rfl, by simpa using h1, fun i y u hy hu => h2 (i + 1) y u (by simpa using hy) (by simpa using hu)⟩
theorem mU {α : Type} (l m : List α) (n : Nat) : nth (l ++ m) n = if n < l.length then nth l n else nth m (n - l.length) := by
 simp only [gO]
 by_cases h : n < l.length
 · rw [if_pos h, List.getElem?_append_left h]
 · rw [if_neg h, List.getElem?_append_right (by omega)]
theorem xe {w0 : World} {mu : Mu} {c : Cz} {st : St} {a : Act} {w : World} (h : Rel w0 mu c st a w) {s j g : Nat} {A : iN} (hA : bl st s j g = some A) : cz c w s j A := by
 obtain ⟨sl, h1, _, h3⟩ := bN hA; exact h.aP s j sl A h1 h3
theorem AJ {w : World} {P : List Nat → Nat → Prop} {q : RT} {ys : List (aq q)} {b : Nat} : (r : RT) → (p : List Nat) → (k0 off : Nat) → (x : aq r) → (k : Nat) → iz w P r p k0 b off x → qH r x k = some ⟨q, ys⟩ → ∃ v, w.cell? ⟨b, off + k, none⟩ = some v ∧ dZ w P (.sl q) (p ++ [k0 + k]) v ys
 | .nil, _, _, _, _, _, _, h => by simp [qH] at h
 | .cons t r, p, k0, off, x, 0, hd, h => by
   unfold iz at hd; obtain ⟨⟨v, h1, h2⟩, _⟩ := hd
   cases t with
   | sl q' =>
     have h : some (⟨q', x.1⟩ : (q : RT) × List (aq q)) = some ⟨q, ys⟩ := h; injection h with h; injection h with e1 e2; subst e1; have e2 := eq_of_heq e2; subst e2; exact ⟨v, h1, h2⟩
   | int _ => simp [qH] at h
   | bool => simp [qH] at h
   | str => simp [qH] at h
 | .cons t r, p, k0, off, x, k + 1, hd, h => by
   unfold iz at hd; have h' : qH r x.2 k = some ⟨q, ys⟩ := by cases t <;> exact h
   obtain ⟨v, h1, h2⟩ := AJ r p (k0 + 1) (off + 1) x.2 k hd.2 h'; exact ⟨v, by rw [show off + (k + 1) = off + 1 + k by omega]; exact h1, by rw [show k0 + (k + 1) = k0 + 1 + k by omega]; exact h2⟩
theorem Ho {c : Cz} {st : St} {w : World} {a j g e i k : Nat} {q : RT} {ys : List (aq q)} {v : Value} {A : iN} (hx : kX c st w (.qg a j g e i k q ys) v) (hA : bl st a j g = some A) (he : ou st a = e) (ha : cz c w a j A) :
   ∃ (gg : Nat → List Nat) (b o cap : Nat), c.lc a j = .at b o cap ∧ A.md = .dp ∧ gg b = [] ∧ w.cell? ⟨b, o + i * A.r.width + k, none⟩ = some v ∧ (∀ (i : Nat) x, A.xs[i]? = some x → iz w (fun p k => c.own k = some (.sp a j) ∧ gg k = p) A.r [i] 0 b (o + i * A.r.width) x) ∧
     (∃ x, A.xs[i]? = some x ∧ qH A.r x k = some ⟨q, ys⟩) ∧ dZ w (fun p k => c.own k = some (.sp a j) ∧ gg k = p) (.sl q) [i, k] v ys := by
 obtain ⟨_, _, _, h⟩ := hx; obtain ⟨hm, ⟨x, AG, Xf⟩, b, o, cap, jh, xI⟩ := h A hA he; unfold cz at ha; rw [jh] at ha; obtain ⟨_, _, _, iP⟩ := ha; unfold cf at iP; rw [hm] at iP; obtain ⟨gg, Pg, iP⟩ := iP; obtain ⟨v', h1, h2⟩ := AJ A.r [i] 0 _ x k (iP i x AG) Xf; rw [xI] at h1
 cases h1
 exact ⟨gg, b, o, cap, jh, hm, Pg, xI, iP, ⟨x, AG, Xf⟩, by simpa using h2⟩
theorem wm {st : St} {own : Bool} {q : RT} {y : aq q} {off : Nat} {o : OV} {u : Option Lb} {r : List (Nat × Nat)} (h : gu st own (.mH q y off) = some (o, u, r)) : o = .mH q [y] ∧ u = none ∧ r = [] := by
 unfold gu at h; obtain ⟨_, h⟩ := aH h; simp only [Option.some.injEq, Prod.mk.injEq] at h; exact ⟨h.1.symm, h.2.1.symm, h.2.2.symm⟩
theorem tk {st : St} {own : Bool} {q : RT} {y : List (aq q)} {off : Nat} {o : OV} {u : Option Lb} {r : List (Nat × Nat)} (h : gu st own (.sX q y off) = some (o, u, r)) : o = .mH q y ∧ u = none ∧ r = [] := by
 unfold gu at h; obtain ⟨_, h⟩ := aH h; simp only [Option.some.injEq, Prod.mk.injEq] at h; exact ⟨h.1.symm, h.2.1.symm, h.2.2.symm⟩
theorem KJ {w0 : World} {mu : Mu} {c : Cz} {st : St} {a : Act} {w : World} (h : Rel w0 mu c st a w) {own : Bool} {ρ : Lb → Option Lb} {f : Nat → Lb} {j : Nat} {x : CV} {v : Value} (hx : kX c st w x v) {o : OV} {u : Option Lb} {r : List (Nat × Nat)}
   (hc : gu st own x = some (o, u, r)) (hu : ∀ l, u = some l → ρ l = some (f j)) (hr : ∀ p ∈ r, ρ (.sp p.1 p.2) = none) {os : List OV} {l : List Value} (hh : bT (c.map ρ) w f (j + 1) os l) : bT (c.map ρ) w f j (o :: os) (v :: l) := by
 cases x with
 | int k n =>
   simp only [gu, Option.some.injEq, Prod.mk.injEq] at hc; obtain ⟨rfl, rfl, _⟩ := hc; have e : v = .int k n := hx; exact ⟨l, by rw [e], hh⟩
 | bool n =>
   simp only [gu, Option.some.injEq, Prod.mk.injEq] at hc; obtain ⟨rfl, rfl, _⟩ := hc; have e : v = .bool n := hx; exact ⟨l, by rw [e], hh⟩
 | str n =>
   simp only [gu, Option.some.injEq, Prod.mk.injEq] at hc; obtain ⟨rfl, rfl, _⟩ := hc; have e : v = .string n := hx; exact ⟨l, by rw [e], hh⟩
 | eI =>
   simp only [gu, Option.some.injEq, Prod.mk.injEq] at hc; obtain ⟨rfl, rfl, _⟩ := hc; have e : v = .slice none 0 0 := hx; exact ⟨l, by rw [e], hh⟩
 | shr q xs =>
   simp only [gu, Option.some.injEq, Prod.mk.injEq] at hc; obtain ⟨rfl, rfl, _⟩ := hc; have e : cw w c.ok (.sl q) v xs := hx; exact ⟨v, l, rfl, cw.stays ⟨Nat.le_refl _, fun _ _ _ => rfl, fun b _ hb => Cz.s5 hb⟩ _ _ _ e, hh⟩
 | nn q xs =>
   simp only [gu, Option.some.injEq, Prod.mk.injEq] at hc; obtain ⟨rfl, rfl, _⟩ := hc; have e : cw w c.ok (.sl q) v xs := hx.1; exact ⟨v, l, rfl, cw.stays ⟨Nat.le_refl _, fun _ _ _ => rfl, fun b _ hb => Cz.s5 hb⟩ _ _ _ e, hh⟩
 | ref s k g vw =>
   unfold gu at hc; simp only at hc
   cases hA : bl st s k g with
   | none => simp [hA] at hc
   | some A =>
     simp only [hA] at hc; have ha := xe h hA; have hs := hx.2.2 A hA; have xY : A.md ≠ .ho := by intro e; rw [e] at hc; simp [Md.is] at hc
     have acr : A.md.is .ho = false := by cases hm : A.md <;> simp_all [Md.is]
     simp only [acr, cond_false] at hc
     cases hb : (own && A.own && (A.md.is .sh || vw.isFull)) with
     | true =>
       simp only [hb, cond_true, Option.some.injEq, Prod.mk.injEq] at hc; obtain ⟨rfl, rfl, rfl⟩ := hc; rw [Bool.and_eq_true, Bool.and_eq_true, Bool.or_eq_true] at hb; obtain ⟨lc, g1⟩ := NG ha hb.1.2 hx.1 hs (hu _ rfl) hb.2; exact ⟨v, l, rfl, ⟨lc, g1⟩, hh⟩
     | false =>
       simp only [hb, cond_false, Option.some.injEq, Prod.mk.injEq] at hc; obtain ⟨rfl, rfl, rfl⟩ := hc; refine ⟨v, l, rfl, ?_, hh⟩; refine CM ha hs (fun b hb => Cz.s5 hb) (fun b _ hk => ?_) xY; exact (Cz.kR hk).trans (hr (s, k) (by simp))
 | qg s k g e i kk q ys =>
   unfold gu at hc; simp only at hc
   cases hA : bl st s k g with
   | none => simp [hA] at hc
   | some A =>
     simp only [hA] at hc; obtain ⟨h1, hc⟩ := aH hc; rw [Bool.and_eq_true] at h1; simp only [Option.some.injEq, Prod.mk.injEq] at hc; obtain ⟨rfl, rfl, rfl⟩ := hc; obtain ⟨gg, b, o, cap, _, _, _, _, _, _, hd⟩ := Ho hx hA (Nat.eq_of_beq_eq_true h1.2).symm (xe h hA); exact ⟨v, l, rfl, dZ.rep (fun p kb hk => (Cz.kR hk.1).trans (hr (s, k) (by simp))) _ _ _ _ hd, hh⟩
 | bad => simp [gu] at hc
 | IT => simp [gu] at hc
 | ptr _ _ _ => simp [gu] at hc
 | Li _ _ _ _ _ => simp [gu] at hc
 | mH q y off =>
   unfold gu at hc; obtain ⟨h1, hc⟩ := aH hc; have h1 := Nat.eq_of_beq_eq_true h1; subst h1; simp only [Option.some.injEq, Prod.mk.injEq] at hc; obtain ⟨rfl, rfl, _⟩ := hc; obtain ⟨b, o, e1, e2, e3, e4⟩ := hx; refine ⟨v, l, rfl, ⟨b, o, e1, e2, Cz.s5 e3, fun z hz => ?_⟩, hh⟩; simp at hz; subst hz; exact dw.stays ⟨Nat.le_refl _, fun _ _ _ => rfl, fun b _ hb => Cz.s5 hb⟩ _ _ _ _ rfl e4
 | sX q ys off =>
   unfold gu at hc; obtain ⟨h1, hc⟩ := aH hc; have h1 := Nat.eq_of_beq_eq_true h1; subst h1; simp only [Option.some.injEq, Prod.mk.injEq] at hc; obtain ⟨rfl, rfl, _⟩ := hc; obtain ⟨b, o, e1, e2, e3, e4⟩ := hx; exact ⟨v, l, rfl, ⟨b, o, e1, e2, Cz.s5 e3, fun z hz => dw.stays ⟨Nat.le_refl _, fun _ _ _ => rfl, fun b _ hb => Cz.s5 hb⟩ _ _ _ _ rfl (e4 z hz)⟩, hh⟩
 | fn g rs ys =>
   simp only [gu, Option.some.injEq, Prod.mk.injEq] at hc; obtain ⟨rfl, rfl, _⟩ := hc; have hx : FnAt w c.ok g rs v ys := hx; exact ⟨v, l, rfl, hx.stays ⟨Nat.le_refl _, fun _ _ _ => rfl, fun b _ hb => Cz.s5 hb⟩, hh⟩
theorem KK {w0 : World} {mu : Mu} {c : Cz} {st : St} {a : Act} {w : World} (h : Rel w0 mu c st a w) {own : Bool} {ρ : Lb → Option Lb} {f : Nat → Lb} : (cs : List CV) → (vs : List Value) → (j : Nat) → fX c st w cs vs → {os : List OV} → {u : List (Option Lb)} → {r : List (Nat × Nat)} →
   fC st own cs = some (os, u, r) → (∀ k l, nth u k = some (some l) → ρ l = some (f (j + k))) → (∀ p ∈ r, ρ (.sp p.1 p.2) = none) → bT (c.map ρ) w f j os vs
 | [], vs, j, hl, os, u, r, he, _, _ => by
   simp only [fC, Option.some.injEq, Prod.mk.injEq] at he; obtain ⟨rfl, rfl, rfl⟩ := he; have := hl.1; simp at this; exact List.length_eq_zero_iff.1 this.symm
 | x :: cs, vs, j, hl, os, u, r, he, hu, hr => by
   obtain ⟨v, l, rfl, hx, xG⟩ := hl.Rk; unfold fC at he
   cases hc : gu st own x with
   | none => simp [hc] at he
   | some p =>
     obtain ⟨o, u1, r1⟩ := p
     cases hq : fC st own cs with
     | none => simp [hc, hq] at he
     | some q =>
       obtain ⟨zw, us, rs⟩ := q; simp only [hc, hq, Option.some.injEq, Prod.mk.injEq] at he; obtain ⟨rfl, rfl, rfl⟩ := he; refine KJ h hx hc (fun l hl => hu 0 l (by rw [hl]; rfl)) (fun p hp => hr p (List.mem_append_left _ hp)) ?_; refine KK h cs l (j + 1) xG hq (fun k' l' hk => ?_) (fun p hp => hr p (List.mem_append_right _ hp)); have := hu (k' + 1) l' hk
       rwa [show j + (k' + 1) = j + 1 + k' by omega] at this
end Go.TM
namespace Go.TM
open Go Go.RowKit
def Lb.real : Lb → Bool
 | .box _ => true
 | .sp _ _ => true
 | _ => false
theorem Lb.zx {x y : Lb} (hx : x.real = true) : Lb.same x y = true ↔ x = y := by
 cases x <;> cases y <;> simp [Lb.same, Lb.real] at hx ⊢
theorem pe : (l : List Lb) → (∀ x ∈ l, x.real = true) → ub l = true → l.Nodup
 | [], _, _ => List.nodup_nil
 | x :: l, hr, h => by
   simp only [ub, Bool.and_eq_true, List.all_eq_true] at h; refine List.nodup_cons.2 ⟨fun hm => ?_, pe l (fun y hy => hr y (List.mem_cons_of_mem _ hy)) h.2⟩; have := h.1 x hm; rw [(Lb.zx (hr x List.mem_cons_self)).2 rfl] at this
   cases this
noncomputable def look : List (Lb × Lb) → Lb → Option Lb
 | [], _ => none
 | (x, y) :: t, l => have := Classical.propDecidable (x = l); if x = l then some y else look t l
theorem zy : (t : List (Lb × Lb)) → (t.map (·.1)).Nodup → {p : Lb × Lb} → p ∈ t → look t p.1 = some p.2
 | [], _, _, h => by simp at h
 | (x, y) :: t, hn, p, h => by
   unfold look; simp only [List.map_cons, List.nodup_cons] at hn
   by_cases e : x = p.1
   · rw [if_pos e]; rcases List.mem_cons.1 h with rfl | h
     · rfl
     · exact absurd (List.mem_map.2 ⟨p, h, e.symm⟩) hn.1
   · rw [if_neg e]; rcases List.mem_cons.1 h with rfl | h
     · exact absurd rfl e
     · exact zy t hn.2 h
theorem xf : (t : List (Lb × Lb)) → {l y : Lb} → look t l = some y → (l, y) ∈ t
 | [], _, _, h => by simp [look] at h
 | (x, z) :: t, l, y, h => by
   unfold look at h
   by_cases e : x = l
   · rw [if_pos e] at h
     cases h
     subst e; exact List.mem_cons_self
   · rw [if_neg e] at h; exact List.mem_cons_of_mem _ (xf t h)
def zA (f : Nat → Lb) : (j : Nat) → List (Option Lb) → List (Lb × Lb)
 | _, [] => []
 | j, some l :: ls => (l, f j) :: zA f (j + 1) ls
 | j, none :: ls => zA f (j + 1) ls
theorem zB (f : Nat → Lb) : (j : Nat) → (ls : List (Option Lb)) → (zA f j ls).map (·.1) = cq ls
 | _, [] => rfl
 | j, some l :: ls => by simp [zA, cq, zB f (j + 1) ls]
 | j, none :: ls => by simp [zA, cq, zB f (j + 1) ls]
theorem C8 (f : Nat → Lb) : (j : Nat) → (ls : List (Option Lb)) → ∀ p ∈ zA f j ls, ∃ k, p.2 = f k
 | _, [], p, h => by simp [zA] at h
 | j, some l :: ls, p, h => by
   simp only [zA, List.mem_cons] at h; rcases h with rfl | h
   · exact ⟨j, rfl⟩
   · exact C8 f (j + 1) ls p h
 | j, none :: ls, p, h => C8 f (j + 1) ls p h
theorem wo (f : Nat → Lb) : (j : Nat) → (ls : List (Option Lb)) → ∀ k l, nth ls k = some (some l) → (l, f (j + k)) ∈ zA f j ls
 | _, [], k, l, h => by simp at h
 | j, x :: ls, 0, l, h => by
   simp only [nth, Option.some.injEq] at h; subst h; exact List.mem_cons_self
 | j, x :: ls, k + 1, l, h => by
   have := wo f (j + 1) ls k l h; rw [show j + (k + 1) = j + 1 + k by omega]
   cases x with
   | none => exact this
   | some x => exact List.mem_cons_of_mem _ this
theorem hZ {l : Lb} : {ls : List (Option Lb)} → l ∈ cq ls ↔ some l ∈ ls
 | [] => by simp [cq]
 | none :: ls => by simp [cq, hZ (ls := ls)]
 | some x :: ls => by simp [cq, hZ (ls := ls)]
def Ji (c : Cz) : Option CV → Loc
 | some (.ref a j _ _) => c.lc a j
 | _ => .nil
def Bz (c : Cz) : V → Nat → Loc
 | .one (.ref a j _ _) => fun _ => c.lc a j
 | .agg cs => fun k => Ji c cs[k]?
 | _ => fun _ => .nil
theorem KM {st : St} {own : Bool} : (cs : List CV) → {os : List OV} → {u : List (Option Lb)} → {r : List (Nat × Nat)} → fC st own cs = some (os, u, r) → ∀ (k : Nat) (o : OV), os[k]? = some o → ∃ x u' r', cs[k]? = some x ∧ gu st own x = some (o, u', r') ∧ nth u k = some u'
 | [], _, _, _, h => by
   simp only [fC, Option.some.injEq, Prod.mk.injEq] at h; obtain ⟨rfl, rfl, _⟩ := h; intro k o hk; simp at hk
 | x :: cs, os, u, r, h => by
   unfold fC at h
   cases hc : gu st own x with
   | none => simp [hc] at h
   | some p =>
     obtain ⟨o, u1, r1⟩ := p
     cases hq : fC st own cs with
     | none => simp [hc, hq] at h
     | some q =>
       obtain ⟨zw, us, rs⟩ := q; simp only [hc, hq, Option.some.injEq, Prod.mk.injEq] at h; obtain ⟨rfl, rfl, _⟩ := h; intro k o' hk
       cases k with
       | zero =>
         simp only [List.getElem?_cons_zero, Option.some.injEq] at hk; subst hk; exact ⟨x, u1, r1, rfl, hc, rfl⟩
       | succ k =>
         obtain ⟨y, u', r', h1, h2, h3⟩ := KM cs hq k o' (by simpa using hk); exact ⟨y, u', r', by simpa using h1, h2, h3⟩
theorem NH {st : St} {own : Bool} {x : CV} {A : iN} {u : Option Lb} {r : List (Nat × Nat)} (h : gu st own x = some (.own A, u, r)) : ∃ a j g w B, x = .ref a j g w ∧ bl st a j g = some B ∧ A = { B with xs := w.app B.xs } ∧ u = some (.sp a j) ∧ B.own = true := by
 cases x with
 | ref a j g w =>
   unfold gu at h; simp only at h
   cases hA : bl st a j g with
   | none => simp [hA] at h
   | some B =>
     simp only [hA] at h
     cases hm : B.md.is .ho with
     | true => simp [hm] at h
     | false =>
     simp only [hm, cond_false] at h
     cases hb : (own && B.own && (B.md.is .sh || w.isFull)) with
     | false => simp [hb] at h
     | true =>
       simp only [hb, cond_true, Option.some.injEq, Prod.mk.injEq] at h; obtain ⟨h1, rfl, _⟩ := h; injection h1 with h1; rw [Bool.and_eq_true, Bool.and_eq_true] at hb; exact ⟨a, j, g, w, B, rfl, hA, h1.symm, rfl, hb.1.2⟩
 | qg a j g e i k q ys =>
   unfold gu at h; simp only at h
   cases hA : bl st a j g with
   | none => simp [hA] at h
   | some B =>
     simp only [hA] at h; obtain ⟨_, h⟩ := aH h; simp at h
 | mH q y off => exact absurd (wm h).1 (by simp)
 | sX q y off => exact absurd (tk h).1 (by simp)
 | _ => simp [gu] at h
theorem LF {st : St} {own : Bool} {x : CV} {u : Option Lb} {r : List (Nat × Nat)} (h : gu st own x = some (.eI, u, r)) : x = .eI := by
 cases x with
 | ref a j g w =>
   unfold gu at h; simp only at h
   cases hA : bl st a j g with
   | none => simp [hA] at h
   | some B =>
     simp only [hA] at h
     cases hm : B.md.is .ho with
     | true => simp [hm] at h
     | false =>
     simp only [hm, cond_false] at h
     cases hb : (own && B.own && (B.md.is .sh || w.isFull)) <;> simp [hb] at h
 | qg a j g e i k q ys =>
   unfold gu at h; simp only at h
   cases hA : bl st a j g with
   | none => simp [hA] at h
   | some B =>
     simp only [hA] at h; obtain ⟨_, h⟩ := aH h; simp at h
 | eI => rfl
 | mH q y off => exact absurd (wm h).1 (by simp)
 | sX q y off => exact absurd (tk h).1 (by simp)
 | _ => simp [gu] at h
theorem Fc {st : St} {own : Bool} {x : CV} {o : OV} {u : Option Lb} {r : List (Nat × Nat)} (h : gu st own x = some (o, u, r)) : ∀ l, u = some l → ∃ s j, l = .sp s j := by
 cases x with
 | ref a j g w =>
   unfold gu at h; simp only at h
   cases hA : bl st a j g with
   | none => simp [hA] at h
   | some A =>
     simp only [hA] at h
     cases hm : A.md.is .ho with
     | true => simp [hm] at h
     | false =>
     simp only [hm, cond_false] at h
     cases hb : (own && A.own && (A.md.is .sh || w.isFull)) <;> simp only [hb, cond_true, cond_false, Option.some.injEq, Prod.mk.injEq] at h <;> obtain ⟨_, rfl, _⟩ := h <;> simp
 | qg a j g e i k q ys =>
   unfold gu at h; simp only at h
   cases hA : bl st a j g with
   | none => simp [hA] at h
   | some B =>
     simp only [hA] at h; obtain ⟨_, h⟩ := aH h; simp only [Option.some.injEq, Prod.mk.injEq] at h; obtain ⟨_, rfl, _⟩ := h; simp
 | mH q y off => obtain ⟨_, rfl, _⟩ := wm h; simp
 | sX q y off => obtain ⟨_, rfl, _⟩ := tk h; simp
 | _ => simp [gu] at h <;> (try (obtain ⟨_, rfl, _⟩ := h; simp))
theorem xg {st : St} {own : Bool} : (cs : List CV) → {os : List OV} → {u : List (Option Lb)} → {r : List (Nat × Nat)} → fC st own cs = some (os, u, r) → ∀ l ∈ cq u, ∃ s j, l = .sp s j
 | [], _, _, _, h => by
   simp only [fC, Option.some.injEq, Prod.mk.injEq] at h; obtain ⟨_, rfl, _⟩ := h; simp [cq]
 | x :: cs, os, u, r, h => by
   unfold fC at h
   cases hc : gu st own x with
   | none => simp [hc] at h
   | some p =>
     obtain ⟨o, u1, r1⟩ := p
     cases hq : fC st own cs with
     | none => simp [hc, hq] at h
     | some q =>
       obtain ⟨zw, us, rs⟩ := q; simp only [hc, hq, Option.some.injEq, Prod.mk.injEq] at h; obtain ⟨_, rfl, _⟩ := h; intro l hl; rw [hZ] at hl; rcases List.mem_cons.1 hl with hl | hl
       · exact Fc hc l hl.symm
       · exact xg cs hq l (hZ.2 hl)
theorem LG {st : St} {own : Bool} (cs : List CV) {os : List OV} {u : List (Option Lb)} {r : List (Nat × Nat)} (h : fC st own cs = some (os, u, r)) : ∀ l ∈ cq u, l.real = true := by
 intro l hl; obtain ⟨s, j, rfl⟩ := xg cs h l hl; rfl
def j6 (i : Nat) (av : AV) (bx : List Lb) (u : List (Option Lb)) : List (Lb × Lb) :=
 bx.map (fun l => (l, .tg i)) ++ zA (.cA i) 0 u
theorem mV (i : Nat) (av : AV) (bx : List Lb) (u : List (Option Lb)) : (j6 i av bx u).map (·.1) = bx ++ cq u := by
 unfold j6; rw [List.map_append, zB, List.map_map]
 congr 1
 exact List.map_id bx
theorem mW (i : Nat) (av : AV) (bx : List Lb) (u : List (Option Lb)) : ∀ p ∈ j6 i av bx u, p.2.kL = true := by
 intro p hp; unfold j6 at hp; rcases List.mem_append.1 hp with hp | hp
 · obtain ⟨l, _, rfl⟩ := List.mem_map.1 hp; rfl
 · obtain ⟨k, e⟩ := C8 _ _ _ p hp; rw [e]; rfl
theorem LH {w0 : World} {mu : Mu} {c : Cz} {st : St} {a : Act} {w : World} (h : Rel w0 mu c st a w) {m : Pm} {v : V} {x : Value} (hx : fY c st w v x) {av : AV} {u q : List Lb} {r : List (Nat × Nat)} (he : eS st m v = some (av, u, q, r)) (i : Nat) :
   (∀ l ∈ u, l.real = true) ∧ (∀ l ∈ q, l ∈ u) ∧ ∃ tb : List (Lb × Lb), tb.map (·.1) = u ∧ (∀ p ∈ tb, p.2.kL = true) ∧ ∀ ρ : Lb → Option Lb, (∀ p ∈ tb, ρ p.1 = some p.2) → (∀ p ∈ r, ρ (.sp p.1 p.2) = none) → sJ (c.map ρ) w i (Bz c v) av x := by
 have vals : ∀ (own : Bool) (cs : List CV) (os : List OV) (us : List (Option Lb)) (rs : List (Nat × Nat)) (vs : List Value), fX c st w cs vs → fC st own cs = some (os, us, rs) → (∀ l ∈ cq us, l.real = true) ∧
     ∀ ρ : Lb → Option Lb, (∀ p ∈ zA (.cA i) 0 us, ρ p.1 = some p.2) → (∀ p ∈ rs, ρ (.sp p.1 p.2) = none) → bT (c.map ρ) w (.cA i) 0 os vs := by
   intro own cs os us rs vs hl hq; refine ⟨LG cs hq, fun ρ hp hr => KK h cs vs 0 hl hq (fun k l hk => ?_) hr⟩; have := hp _ (wo (.cA i) 0 us k l hk); simpa using this
 have single : ∀ (own : Bool) (cx : CV) (os : List OV) (us : List (Option Lb)) (rs : List (Nat × Nat)), kX c st w cx x → fC st own [cx] = some (os, us, rs) → (∀ l ∈ cq us, l.real = true) ∧ (∀ l ∈ cq us, l ∈ cq us) ∧
     ∃ tb : List (Lb × Lb), tb.map (·.1) = cq us ∧ (∀ p ∈ tb, p.2.kL = true) ∧ ∀ ρ : Lb → Option Lb, (∀ p ∈ tb, ρ p.1 = some p.2) → (∀ p ∈ rs, ρ (.sp p.1 p.2) = none) → sJ (c.map ρ) w i (Bz c (.one cx)) (.val false os) x := by
   intro own cx os us rs hl hq; obtain ⟨g1, g2⟩ := vals own [cx] os us rs [x] ⟨rfl, fun k y z hy hz => by
     cases k with
     | zero => simp at hy hz; subst hy hz; exact hl
     | succ k => simp at hy⟩ hq
   exact ⟨g1, fun _ h => h, j6 i (.val false os) [] us, mV _ _ _ _, mW _ _ _ _, fun ρ hp hr => g2 ρ (fun p j3 => hp p (by simpa [j6] using j3)) hr⟩
 cases v with
 | ot _ => simp [eS] at he
 | agg cs =>
   obtain ⟨vs, rfl, hl⟩ := hx; have other : (match fC st m.oD cs with | some (os, u, r) => some (AV.val true os, cq u, cq u, r) | none => none) = some (av, u, q, r) → (∀ l ∈ u, l.real = true) ∧ (∀ l ∈ q, l ∈ u) ∧
       ∃ tb : List (Lb × Lb), tb.map (·.1) = u ∧ (∀ p ∈ tb, p.2.kL = true) ∧ ∀ ρ : Lb → Option Lb, (∀ p ∈ tb, ρ p.1 = some p.2) → (∀ p ∈ r, ρ (.sp p.1 p.2) = none) → sJ (c.map ρ) w i (Bz c (.agg cs)) av (.agg vs) := by
     intro he
     cases hq : fC st m.oD cs with
     | none => simp [hq] at he
     | some p =>
       obtain ⟨os, us, rs⟩ := p; simp only [hq, Option.some.injEq, Prod.mk.injEq] at he; obtain ⟨rfl, rfl, rfl, rfl⟩ := he; obtain ⟨g1, g2⟩ := vals _ _ _ _ _ _ hl hq; exact ⟨g1, fun _ h => h, j6 i (.val true os) [] us, mV _ _ _ _, mW _ _ _ _, fun ρ hp hr => ⟨vs, rfl, g2 ρ (fun p j3 => hp p (by simpa [j6] using j3)) hr⟩⟩
   unfold eS at he
   cases m with
   | shr => exact other he
   | own => exact other he
   | pick _ => exact other he
   | io => exact other he
   | bW =>
     simp only at he
     cases hq : fC st true cs with
     | none => simp [hq] at he
     | some p =>
       obtain ⟨os, us, rs⟩ := p; simp only [hq] at he; obtain ⟨qk, xr⟩ := aH he; simp only [Option.some.injEq, Prod.mk.injEq] at xr; obtain ⟨rfl, rfl, rfl, rfl⟩ := xr; obtain ⟨g1, g2⟩ := vals _ _ _ _ _ _ hl hq; refine ⟨g1, by simp, j6 i (.val true os) [] us, mV _ _ _ _, mW _ _ _ _, fun ρ hp hr => ⟨vs, rfl, g2 ρ (fun p j3 => hp p (by simpa [j6] using j3)) hr, fun j o x ho hxj => ?_⟩⟩; obtain ⟨cx, u', r', k1, k2, k3⟩ := KM cs hq j o ho; show NF (c.map ρ) w i (fun k => Ji c cs[k]?) j o x
       cases o with
       | eI =>
         have := LF k2; subst this; show Ji c cs[j]? = .nil; rw [k1]; rfl
       | own A =>
         obtain ⟨s, k, g, vw, B, rfl, hA, rfl, rfl, hB⟩ := NH k2; have Cg : CV.ref s k g vw ∈ cs := List.mem_of_getElem? k1; have C7 := List.all_eq_true.1 qk _ Cg; have NI : vw = .full := by
           unfold Nl at C7; rw [Bool.and_eq_true] at C7
           cases vw with
           | full => rfl
           | «from» _ => cases C7.1
           | sub _ _ => cases C7.1
         subst NI; have hxr := hl.2 j _ _ k1 hxj; have hs := hxr.2.2 B hA; have ha := xe h hA; have hρ : ρ (.sp s k) = some (.cA i j) := hp (.sp s k, .cA i j) (by
           have := wo (.cA i) 0 us j (.sp s k) k3; simpa [j6] using this)
         have acs : (fun k => Ji c cs[k]?) j = c.lc s k := by
           show Ji c cs[j]? = _; rw [k1]; rfl
         show OwnAt (c.map ρ) w (.cA i j) ((fun k => Ji c cs[k]?) j) { B with xs := View.full.app B.xs } x; rw [acs]; refine ⟨hxr.1, hs, hB, ?_⟩; show match c.lc s k with
           | .nil => B.xs = []
           | .at b off cap => _
         unfold cz at ha
         cases jh : c.lc s k with
         | nil => rw [jh] at ha; exact ha
         | «at» b off cap =>
           rw [jh] at ha; obtain ⟨h0, h2, h3, h4⟩ := ha; rw [hB] at h0; exact ⟨(Cz.kR h0).trans hρ, h2, h3, h4.map hρ⟩
       | _ => trivial
 | one cx =>
   cases cx with
   | ptr b g off =>
     unfold eS at he; simp only at he
     cases hb : eR st b g with
     | none => simp [hb] at he
     | some cs =>
       simp only [hb] at he
       cases hq : fC st true cs with
       | none => simp [hq] at he
       | some p =>
         obtain ⟨os, us, rs⟩ := p; simp only [hq] at he; obtain ⟨ho, xr⟩ := aH he; have ho1 := Nat.eq_of_beq_eq_true ho; simp only [Option.some.injEq, Prod.mk.injEq] at xr; obtain ⟨rfl, rfl, rfl, rfl⟩ := xr; subst ho1; obtain ⟨sl, k1, k2, k3⟩ := iF hb; obtain ⟨h1, vs, ty, h2, h3⟩ := h.boxes b sl cs k1 k3; obtain ⟨g1, g2⟩ := vals _ _ _ _ _ _ h3 hq; refine ⟨fun l hl => ?_, fun l hl => List.mem_cons_of_mem _ hl, j6 i (.box os) [.box b] us, by rw [mV]; rfl, mW _ _ _ _, fun ρ hp hr => ⟨c.bx b, vs, ty, hx.2.2 cs hb, ?_, h2, g2 ρ (fun p j3 => hp p (List.mem_append_right _ j3)) hr⟩⟩
         · rcases List.mem_cons.1 hl with rfl | hl
           · rfl
           · exact g1 l hl
         · exact (Cz.kR h1).trans (hp (.box b, .tg i) (by simp [j6]))
   | ref s j g vw =>
     unfold eS at he; have other : (match fC st m.oD [.ref s j g vw] with | some (os, u, r) => some (AV.val false os, cq u, cq u, r) | none => none) = some (av, u, q, r) → (∀ l ∈ u, l.real = true) ∧ (∀ l ∈ q, l ∈ u) ∧
         ∃ tb : List (Lb × Lb), tb.map (·.1) = u ∧ (∀ p ∈ tb, p.2.kL = true) ∧ ∀ ρ : Lb → Option Lb, (∀ p ∈ tb, ρ p.1 = some p.2) → (∀ p ∈ r, ρ (.sp p.1 p.2) = none) → sJ (c.map ρ) w i (Bz c (.one (.ref s j g vw))) av x := by
       intro he
       cases hq : fC st m.oD [.ref s j g vw] with
       | none => simp [hq] at he
       | some p =>
         obtain ⟨os, us, rs⟩ := p; simp only [hq, Option.some.injEq, Prod.mk.injEq] at he; obtain ⟨rfl, rfl, rfl, rfl⟩ := he; exact single _ _ _ _ _ hx hq
     cases m with
     | shr => exact other he
     | own => exact other he
     | pick _ => exact other he
     | bW => exact other he
     | io =>
       cases vw with
       | full =>
         cases hA : bl st s j g with
         | none => simp [hA] at he
         | some A =>
           simp only [hA] at he; obtain ⟨ho, xr⟩ := aH he; rw [Bool.and_eq_true] at ho; have ho := ho.1; simp only [Option.some.injEq, Prod.mk.injEq] at xr; obtain ⟨rfl, rfl, rfl, rfl⟩ := xr; refine ⟨by simp [Lb.real], by simp, [(.sp s j, .cA i 0)], rfl, by simp [Lb.kL], fun ρ hp _ => ?_⟩; have ha := xe h hA; have hs := hx.2.2 A hA; have hρ : ρ (.sp s j) = some (.cA i 0) := hp (.sp s j, .cA i 0) (by simp); refine ⟨hx.1, hs, ho, ?_⟩; show match c.lc s j with
             | .nil => A.xs = []
             | .at b off cap => _
           unfold cz at ha
           cases jh : c.lc s j with
           | nil => rw [jh] at ha; exact ha
           | «at» b off cap =>
             rw [jh] at ha; obtain ⟨h0, h2, h3, h4⟩ := ha; rw [ho] at h0; exact ⟨(Cz.kR h0).trans hρ, h2, h3, h4.map hρ⟩
       | «from» _ => simp at he
       | sub _ _ => simp at he
   | _ =>
     unfold eS at he; simp only at he
     split at he
     · rename_i os us rs hq; simp only [Option.some.injEq, Prod.mk.injEq] at he; obtain ⟨rfl, rfl, rfl, rfl⟩ := he; exact single _ _ _ _ _ hx hq
     · cases he
theorem Fe {w0 : World} {mu : Mu} {c : Cz} {st : St} {a : Act} {w : World} (h : Rel w0 mu c st a w) : (ms : List (Pm × V)) → (i : Nat) → (xs : List Value) → ms.length = xs.length → (∀ (k : Nat) (m : Pm × V) (x : Value), ms[k]? = some m → xs[k]? = some x → fY c st w m.2 x) →
   {eg : List AV} → {u q : List Lb} → {r : List (Nat × Nat)} → jf st ms = some (eg, u, q, r) →
   (∀ l ∈ u, l.real = true) ∧ (∀ l ∈ q, l ∈ u) ∧ ∃ tb : List (Lb × Lb), tb.map (·.1) = u ∧ (∀ p ∈ tb, p.2.kL = true) ∧ eg.length = ms.length ∧
     ∀ (ρ : Lb → Option Lb) (lc : Nat → Nat → Loc), (∀ (k : Nat) (m : Pm × V), ms[k]? = some m → lc (i + k) = Bz c m.2) → (∀ p ∈ tb, ρ p.1 = some p.2) → (∀ p ∈ r, ρ (.sp p.1 p.2) = none) → x6 (c.map ρ) w lc i eg xs
 | [], i, xs, hl, hx, eg, u, q, r, he => by
   simp only [jf, Option.some.injEq, Prod.mk.injEq] at he; obtain ⟨rfl, rfl, rfl, rfl⟩ := he; simp at hl; exact ⟨by simp, by simp, [], rfl, by simp, rfl, fun ρ lc _ _ _ => List.length_eq_zero_iff.1 hl.symm⟩
 | (m, v) :: ms, i, xs, hl, hx, eg, u, q, r, he => by
   cases xs with
   | nil => simp at hl
   | cons x xs =>
     unfold jf at he
     cases h1 : eS st m v with
     | none => simp [h1] at he
     | some p1 =>
       obtain ⟨av, u1, q1, r1⟩ := p1
       cases h2 : jf st ms with
       | none => simp [h1, h2] at he
       | some p2 =>
         obtain ⟨PL, u2, q2, r2⟩ := p2; simp only [h1, h2, Option.some.injEq, Prod.mk.injEq] at he; obtain ⟨rfl, rfl, rfl, rfl⟩ := he; obtain ⟨a1, a2, ta, a4, a5, a3⟩ := LH h (hx 0 (m, v) x rfl rfl) h1 i; obtain ⟨b1, b2, tb, b3, b4, b6, b5⟩ := Fe h ms (i + 1) xs (by simpa using hl) (fun k m x hm Cd => hx (k + 1) m x (by simpa using hm) (by simpa using Cd)) h2; refine ⟨fun l hl => ?_, fun l hl => ?_, ta ++ tb, by simp [a4, b3], fun p hp => ?_, by simp [b6], fun ρ lc jh hp hr => ?_⟩
         · rcases List.mem_append.1 hl with hl | hl
           · exact a1 l hl
           · exact b1 l hl
         · rcases List.mem_append.1 hl with hl | hl
           · exact List.mem_append_left _ (a2 l hl)
           · exact List.mem_append_right _ (b2 l hl)
         · rcases List.mem_append.1 hp with hp | hp
           · exact a5 p hp
           · exact b4 p hp
         · refine ⟨x, xs, rfl, ?_, b5 ρ lc (fun k m hm => ?_) (fun p j3 => hp p (List.mem_append_right _ j3)) (fun p j3 => hr p (List.mem_append_right _ j3))⟩
           · have := jh 0 (m, v) rfl; simp only [Nat.add_zero] at this; rw [this]; exact a3 ρ (fun p j3 => hp p (List.mem_append_left _ j3)) (fun p j3 => hr p (List.mem_append_left _ j3))
           · have := jh (k + 1) m (by simpa using hm)
             rwa [show i + (k + 1) = i + 1 + k by omega] at this
end Go.TM
namespace Go.TM
open Go Go.RowKit
structure kY (X : Lb → Prop) (w0 : World) (mu : Mu) (c : Cz) (st : St) (a : Act) (w : World) : Prop where
 gJ : ∀ t, fY c st w (da st t) (a.eval (.tmp t))
 boxes : ∀ s sl cs, ¬ X (.box s) → nth st s = some sl → sl.box = some cs → v8 c st w s cs
 aP : ∀ s j sl A, ¬ X (.sp s j) → nth st s = some sl → nth sl.aP j = some (some A) → cz c w s j A
 owned : ∀ b l, c.own b = some l → b < w.heap.size ∧ (l = .out ∨ w0.heap.size ≤ b ∨ mu.m b)
 free : ∀ b, b < w0.heap.size → c.own b = none → mu.m b ∨ mu.ok b
 kept : w.os = w0.os ∧ w.tape = w0.tape ∧ w.output = w0.output ∧ w0.heap.size ≤ w.heap.size
 old : ∀ k, k < w0.heap.size → ¬ mu.m k → w.heap[k]? = w0.heap[k]?
 plain : a.defers = []
 fw : ∀ p ∈ mu.an, Pz c st p
theorem kY.rel {w0 : World} {mu : Mu} {c : Cz} {st : St} {a : Act} {w : World} (h : kY (fun _ => False) w0 mu c st a w) : Rel w0 mu c st a w :=
 ⟨h.gJ, fun s sl cs => h.boxes s sl cs id, fun s j sl A => h.aP s j sl A id, h.owned, h.free, h.kept, h.old, h.plain, h.fw⟩
structure BA (ρ : Lb → Lb) : Prop where
 other : ∀ l, (l = .out ∨ l.real = true) → ρ l = l
def Cz.eT (c : Cz) (ρ : Lb → Lb) (bx : Nat → Nat) (lc : Nat → Nat → Loc) : Cz := { bx := bx, lc := lc, own := fun b => (c.own b).map ρ }
theorem Cz.pf {c : Cz} {ρ : Lb → Lb} {bx : Nat → Nat} {lc : Nat → Nat → Loc} {b : Nat} : (c.eT ρ bx lc).ok b ↔ c.ok b := by
 unfold Cz.ok Cz.eT; simp
theorem oM (c : Cz) (w : World) (ρ : Lb → Lb) (bx : Nat → Nat) (lc : Nat → Nat → Loc) : jI w w c.ok (c.eT ρ bx lc).ok := ⟨Nat.le_refl _, fun _ _ _ => rfl, fun _ _ h => Cz.pf.2 h⟩
theorem kY.eT {X X' : Lb → Prop} {w0 : World} {mu : Mu} {c : Cz} {st bh : St} {a : Act} {w : World} (h : kY X w0 mu c st a w) {ρ : Lb → Lb} {bx : Nat → Nat} {lc : Nat → Nat → Loc} (hρ : BA ρ)
   (hY : Fw c st w (c.eT ρ bx lc) bh w) (Xg : ∀ t, fY (c.eT ρ bx lc) bh w (da bh t) (a.eval (.tmp t)))
   (acu : ∀ s sl cs, ¬ X' (.box s) → nth bh s = some sl → sl.box = some cs → v8 (c.eT ρ bx lc) bh w s cs)
   (AK : ∀ s j sl A, ¬ X' (.sp s j) → nth bh s = some sl → nth sl.aP j = some (some A) → cz (c.eT ρ bx lc) w s j A) : kY X' w0 mu (c.eT ρ bx lc) bh a w where
 gJ := Xg
 boxes := acu
 aP := AK
 owned b l hb := by
   unfold Cz.eT at hb; simp only [Option.map_eq_some_iff] at hb; obtain ⟨k, hk, e⟩ := hb; obtain ⟨h1, h2⟩ := h.owned b k hk; refine ⟨h1, h2.imp (fun e2 => ?_) id⟩; subst e2; rw [← e]; exact hρ.other _ (.inl rfl)
 free b hb h1 := h.free b hb (by unfold Cz.eT at h1; simpa using h1)
 kept := h.kept
 old := h.old
 plain := h.plain
 fw p hp := hY.fw (h.fw p hp)
theorem im (st : St) (s j : Nat) (A : Option iN) (k : Nat) : ∃ f : Sl → Sl, (∀ x, (f x).v = x.v ∧ (f x).box = x.box ∧ (f x).bg = x.bg ∧ (f x).ag = x.ag ∧
     (∀ i, nth (f x).aP i = if k = s ∧ i = j then (nth x.aP i).map (fun _ => A) else nth x.aP i) ∧ (f x).ep = if k = s then x.ep + 1 else x.ep) ∧ nth (cj st s j A) k = (nth st k).map f := by
 unfold cj
 by_cases e : k = s
 · subst e; refine ⟨fun s => { s with aP := nA (fun _ => A) s.aP j, ep := s.ep + 1 }, fun x => ⟨rfl, rfl, rfl, rfl, fun i => ?_, by simp⟩, j5 _ _ _⟩; simp only [ec, true_and]
 · refine ⟨id, fun x => ⟨rfl, rfl, rfl, rfl, fun i => ?_, by simp [e]⟩, by rw [mQ _ _ e]; simp⟩; simp [e]
theorem C9 (st : St) (s j : Nat) (A : Option iN) (t : Nat) : ou st t ≤ ou (cj st s j A) t ∧ (ou (cj st s j A) t = ou st t → t ≠ s ∨ nth st t = none) := by
 obtain ⟨f, hf, hk⟩ := im st s j A t; unfold ou; rw [hk]
 cases nth st t with
 | none => simp
 | some x =>
   simp only [Option.map_some]; rw [(hf x).2.2.2.2.2]
   by_cases e : t = s
   · rw [if_pos e]; exact ⟨by omega, fun h => by omega⟩
   · rw [if_neg e]; exact ⟨Nat.le_refl _, fun _ => .inl e⟩
theorem wq (st : St) (s j : Nat) (A : Option iN) (t : Nat) : da (cj st s j A) t = da st t := by
 obtain ⟨f, hf, hk⟩ := im st s j A t; unfold da; rw [hk]
 cases nth st t with
 | none => rfl
 | some x => exact (hf x).1
theorem Da (st : St) (s j : Nat) (A : Option iN) (t : Nat) : ev (cj st s j A) t = ev st t ∧ jg (cj st s j A) t = jg st t := by
 obtain ⟨f, hf, hk⟩ := im st s j A t; unfold ev jg; rw [hk]
 cases nth st t with
 | none => exact ⟨rfl, rfl⟩
 | some x => exact ⟨(hf x).2.2.2.1, (hf x).2.2.1⟩
theorem Hp (st : St) (s j : Nat) (A : Option iN) (b g : Nat) : eR (cj st s j A) b g = eR st b g := by
 obtain ⟨f, hf, hk⟩ := im st s j A b; unfold eR; rw [hk]
 cases nth st b with
 | none => rfl
 | some x => simp [(hf x).2.1, (hf x).2.2.1]
theorem pg {st : St} {a j g : Nat} {sl : Sl} {A : iN} (h1 : nth st a = some sl) (h2 : sl.ag = g) (h3 : nth sl.aP j = some (some A)) : bl st a j g = some A := by
 unfold bl; rw [h1]; simp [h2, h3]
theorem AL {c : Cz} {st : St} {w : World} {s j g : Nat} {A : Option iN} {A0 : iN} (h0 : bl st s j g = some A0 ∨ A = none) (hA : ∀ B, A = some B → B.r.width = A0.r.width ∧ B.xs.length = A0.xs.length) (ρ : Lb → Lb) :
   Fw c st w (c.eT ρ c.bx c.lc) (cj st s j A) w where
 stays := oM c w ρ _ _
 refs a' j' g' A' hg ft := by
   obtain ⟨sl, k1, k2, k3⟩ := bN ft; obtain ⟨f, hf, hk⟩ := im st s j A a'; rw [hk] at k1
   cases hx : nth st a' with
   | none => rw [hx] at k1; simp at k1
   | some x =>
     rw [hx] at k1; simp at k1; subst k1; rw [(hf x).2.2.2.1] at k2; rw [(hf x).2.2.2.2.1 j'] at k3
     by_cases e : a' = s ∧ j' = j
     · rw [if_pos e] at k3; obtain ⟨rfl, rfl⟩ := e
       cases hq : nth x.aP j' with
       | none => simp [hq] at k3
       | some A1 =>
         simp only [hq, Option.map_some, Option.some.injEq] at k3; rcases h0 with h0 | h0
         · obtain ⟨sl, k1', k2', k3'⟩ := bN h0; rw [hx] at k1'; cases k1'; obtain ⟨e1, e2⟩ := hA A' k3; refine ⟨A0, pg hx k2 k3', e1, e2, rfl, fun he => ?_⟩; rcases (C9 st a' j' A a').2 he with h | h
           · exact absurd rfl h
           · rw [hx] at h; cases h
         · rw [h0] at k3; cases k3
     · rw [if_neg e] at k3; exact ⟨A', pg hx k2 k3, rfl, rfl, rfl, fun _ => ⟨rfl, fun _ _ _ _ => rfl⟩⟩
 CI b g' cs _ h := ⟨⟨cs, by rwa [Hp] at h⟩, rfl⟩
 gA a' := by rw [(Da st s j A a').1]; exact Nat.le_refl _
 gB a' := by rw [(Da st s j A a').2]; exact Nat.le_refl _
 gE a' := (C9 st s j A a').1
theorem v8.eT {c : Cz} {st bh : St} {w : World} {ρ : Lb → Lb} {bx : Nat → Nat} {lc : Nat → Nat → Loc} (hρ : BA ρ) (hY : Fw c st w (c.eT ρ bx lc) bh w) {s : Nat} {cs : List CV} (h : v8 c st w s cs) (hb : bx s = c.bx s) : v8 (c.eT ρ bx lc) bh w s cs := by
 refine h.go hY hb ?_ rfl; unfold Cz.eT; simp only; rw [h.1]; simp [hρ.other (.box s) (.inr rfl)]
theorem cz.eT {c : Cz} {w : World} {ρ : Lb → Lb} {bx : Nat → Nat} {lc : Nat → Nat → Loc} (hρ : BA ρ) {s j : Nat} {A : iN} (h : cz c w s j A) (hl : lc s j = c.lc s j) : cz (c.eT ρ bx lc) w s j A := by
 refine h.go (oM c w ρ bx lc) hl (fun b h0 => ⟨rfl, ?_⟩); unfold Cz.eT; simp only; rw [h0]; simp [hρ.other (.sp s j) (.inr rfl)]
theorem rK : BA id := ⟨fun _ _ => rfl⟩
theorem kY.kill {X : Lb → Prop} {w0 : World} {mu : Mu} {c : Cz} {st : St} {a : Act} {w : World} (h : kY X w0 mu c st a w) (s j : Nat) : kY (fun l => X l ∧ l ≠ .sp s j) w0 mu (c.eT id c.bx c.lc) (cj st s j none) a w ∧ Fw c st w (c.eT id c.bx c.lc) (cj st s j none) w := by
 have hY : Fw c st w (c.eT id c.bx c.lc) (cj st s j none) w := AL (g := 0) (A0 := { r := .nil, own := false, xs := [] }) (.inr rfl) (fun _ e => by cases e) id; refine ⟨h.eT rK hY (fun t => by rw [wq]; exact hY.pG (h.gJ t)) (fun k sl cs hX hs hb => ?_) (fun k i sl A hX hs hA => ?_), hY⟩
 · obtain ⟨f, hf, hk⟩ := im st s j none k; rw [hk] at hs
   cases hx : nth st k with
   | none => rw [hx] at hs; simp at hs
   | some x =>
     rw [hx] at hs; simp at hs; subst hs; rw [(hf x).2.1] at hb; exact (h.boxes k x cs (fun LI => hX ⟨LI, by simp⟩) hx hb).eT rK hY rfl
 · obtain ⟨f, hf, hk⟩ := im st s j none k; rw [hk] at hs
   cases hx : nth st k with
   | none => rw [hx] at hs; simp at hs
   | some x =>
     rw [hx] at hs; simp at hs; subst hs; rw [(hf x).2.2.2.2.1 i] at hA
     by_cases e : k = s ∧ i = j
     · rw [if_pos e] at hA
       cases hq : nth x.aP i <;> simp [hq] at hA
     · rw [if_neg e] at hA; exact (h.aP k i x A (fun LI => hX ⟨LI, by rintro e'; injection e' with e1 e2; exact e ⟨e1, e2⟩⟩) hx hA).eT rK rfl
theorem kY.mono {X X' : Lb → Prop} {w0 : World} {mu : Mu} {c : Cz} {st : St} {a : Act} {w : World} (h : kY X w0 mu c st a w) (hX : ∀ l, X l → X' l) : kY X' w0 mu c st a w :=
 ⟨h.gJ, fun s sl cs hn => h.boxes s sl cs (fun h => hn (hX _ h)), fun s j sl A hn => h.aP s j sl A (fun h => hn (hX _ h)), h.owned, h.free, h.kept, h.old, h.plain, h.fw⟩
def s6 (i z s j : Nat) : Lb → Lb
 | .cA x y => if x = i ∧ y = z then .sp s j else .cA x y
 | l => l
def qN (i b : Nat) : Lb → Lb
 | .cA x y => if x = i then .sp b y else .cA x y
 | .tg x => if x = i then .box b else .tg x
 | l => l
theorem Gf (i z s j : Nat) : BA (s6 i z s j) := ⟨fun l h => by cases l <;> simp [s6, Lb.real] at h ⊢⟩
theorem EG (i b : Nat) : BA (qN i b) := ⟨fun l h => by cases l <;> simp [qN, Lb.real] at h ⊢⟩
theorem OwnAt.arr {c : Cz} {w : World} {l : Lb} {lc' : Loc} {A : iN} {v : Value} (h : OwnAt c w l lc' A v) {ρ : Lb → Lb} {bx : Nat → Nat} {lc : Nat → Nat → Loc} {s j : Nat} (hl : lc s j = lc') (hρ : ρ l = .sp s j) : cz (c.eT ρ bx lc) w s j A := by
 obtain ⟨_, _, h3, h4⟩ := h; unfold cz; show match lc s j with | .nil => _ | .at b off cap => _
 rw [hl]
 cases lc' with
 | nil => exact h4
 | «at» b off cap =>
   obtain ⟨g1, g2, g3, g4⟩ := h4; rw [h3]; have hq : ∀ k, c.own k = some l → (c.eT ρ bx lc).own k = some (.sp s j) := by
     intro k hk; show (c.own k).map ρ = _; rw [hk]; simp [hρ]
   exact ⟨hq b g1, g2, g3, g4.go (fun _ => oM c w ρ bx lc) rfl (fun _ k hk => ⟨rfl, hq k hk⟩)⟩
theorem kY.io {X : Lb → Prop} {w0 : World} {mu : Mu} {c : Cz} {st : St} {a : Act} {w : World} (h : kY X w0 mu c st a w) {s j g i z : Nat} {A B : iN} {v : Value} (hA : bl st s j g = some A) (hw : B.r.width = A.r.width) (hn : B.xs.length = A.xs.length)
   (hB : OwnAt c w (.cA i z) (c.lc s j) B v) : kY (fun l => X l ∧ l ≠ .sp s j) w0 mu (c.eT (s6 i z s j) c.bx c.lc) (cj st s j (some B)) a w ∧ Fw c st w (c.eT (s6 i z s j) c.bx c.lc) (cj st s j (some B)) w := by
 have hY : Fw c st w (c.eT (s6 i z s j) c.bx c.lc) (cj st s j (some B)) w := AL (.inl hA) (fun _ e => by cases e; exact ⟨hw, hn⟩) _; have ht := Gf i z s j; refine ⟨h.eT ht hY (fun t => by rw [wq]; exact hY.pG (h.gJ t)) (fun k sl cs hX hs hb => ?_) (fun k q sl A' hX hs ft => ?_), hY⟩
 · obtain ⟨f, hf, hk⟩ := im st s j (some B) k; rw [hk] at hs
   cases hx : nth st k with
   | none => rw [hx] at hs; simp at hs
   | some x =>
     rw [hx] at hs; simp at hs; subst hs; rw [(hf x).2.1] at hb; exact (h.boxes k x cs (fun LI => hX ⟨LI, by simp⟩) hx hb).eT ht hY rfl
 · obtain ⟨f, hf, hk⟩ := im st s j (some B) k; rw [hk] at hs
   cases hx : nth st k with
   | none => rw [hx] at hs; simp at hs
   | some x =>
     rw [hx] at hs; simp at hs; subst hs; rw [(hf x).2.2.2.2.1 q] at ft
     by_cases e : k = s ∧ q = j
     · rw [if_pos e] at ft; obtain ⟨rfl, rfl⟩ := e
       cases hq : nth x.aP q with
       | none => simp [hq] at ft
       | some A1 =>
         simp only [hq, Option.map_some, Option.some.injEq] at ft; subst ft; exact hB.arr rfl (by simp [s6])
     · rw [if_neg e] at ft; exact (h.aP k q x A' (fun LI => hX ⟨LI, by rintro e'; injection e' with e1 e2; exact e ⟨e1, e2⟩⟩) hx ft).eT ht rfl
theorem bT.cells {c : Cz} {w : World} {f : Nat → Lb} : (os : List OV) → (j : Nat) → (vs : List Value) → bT c w f j os vs →
   ∃ lcs : Nat → Loc, (∀ k A, nth (bw os) k = some (some A) → ∃ v, OwnAt c w (f (j + k)) (lcs (j + k)) A v) ∧
     ∀ (c2 : Cz) (il : St) (d g : Nat), (∀ b, c.ok b → c2.ok b) → (∀ k, k < os.length → c2.lc d (j + k) = lcs (j + k)) → (∀ k A, k < os.length → bl il d (j + k) g = some A → nth (bw os) k = some (some A)) → g ≤ ev il d → fX c2 il w (bp d g j os) vs
 | [], j, vs, h => by
   subst h; exact ⟨fun _ => .nil, fun k A hA => by simp [bw] at hA, fun _ _ _ _ _ _ _ _ => ⟨rfl, fun i x v hx => by simp [bp] at hx⟩⟩
 | o :: os, j, vs, h => by
   obtain ⟨v, l, rfl, hh, xI⟩ : ∃ v l, vs = v :: l ∧ bT c w f (j + 1) os l ∧ ∃ lc, (∀ A, o.arr = some A → OwnAt c w (f j) lc A v) ∧ ∀ (c2 : Cz) (il : St) (d g : Nat), (∀ b, c.ok b → c2.ok b) → c2.lc d j = lc → (∀ A, bl il d j g = some A → o.arr = some A) → g ≤ ev il d →
       ∃ x, bp d g j (o :: os) = x :: bp d g (j + 1) os ∧ kX c2 il w x v := by
     cases o with
     | int k n => obtain ⟨l, h1, h2⟩ := h; exact ⟨_, l, h1, h2, .nil, (fun _ e => by cases e), fun c2 il d g _ _ _ _ => ⟨_, rfl, rfl⟩⟩
     | bool b => obtain ⟨l, h1, h2⟩ := h; exact ⟨_, l, h1, h2, .nil, (fun _ e => by cases e), fun c2 il d g _ _ _ _ => ⟨_, rfl, rfl⟩⟩
     | str b => obtain ⟨l, h1, h2⟩ := h; exact ⟨_, l, h1, h2, .nil, (fun _ e => by cases e), fun c2 il d g _ _ _ _ => ⟨_, rfl, rfl⟩⟩
     | eI => obtain ⟨l, h1, h2⟩ := h; exact ⟨_, l, h1, h2, .nil, (fun _ e => by cases e), fun c2 il d g _ _ _ _ => ⟨_, rfl, rfl⟩⟩
     | shr r xs =>
       obtain ⟨v, l, h1, h2, h3⟩ := h; exact ⟨v, l, h1, h3, .nil, (fun _ e => by cases e), fun c2 il d g gI _ _ _ => ⟨.shr r xs, rfl, cw.stays ⟨Nat.le_refl _, fun _ _ _ => rfl, fun b _ hb => gI b hb⟩ _ _ _ h2⟩⟩
     | mH r xs =>
       obtain ⟨v, l, h1, ⟨b, o, e1, e2, e3, e4⟩, h3⟩ := h; exact ⟨v, l, h1, h3, .nil, (fun _ e => by cases e), fun c2 il d g gI _ _ _ => ⟨.sX r xs 0, rfl, b, o, e1, e2, gI b e3, fun x hx => dw.stays ⟨Nat.le_refl _, fun _ _ _ => rfl, fun b _ hb => gI b hb⟩ _ _ _ _ rfl (e4 x hx)⟩⟩
     | fn g rs xs =>
       obtain ⟨v, l, h1, h2, h3⟩ := h; exact ⟨v, l, h1, h3, .nil, (fun _ e => by cases e), fun c2 il d g' gI _ _ _ => ⟨.fn g rs xs, rfl, h2.stays ⟨Nat.le_refl _, fun _ _ _ => rfl, fun b _ hb => gI b hb⟩⟩⟩
     | own A =>
       obtain ⟨v, l, h1, ⟨lc, h2⟩, h3⟩ := h; refine ⟨v, l, h1, h3, lc, (fun A' e => by cases e; exact h2), fun c2 il d g _ jh AK hg => ⟨.ref d j g .full, rfl, h2.1, hg, fun A' ft => ?_⟩⟩; have e := AK A' ft
       cases e
       rw [jh]; exact h2.2.1
   obtain ⟨lc, q1, q2⟩ := xI; obtain ⟨lcs, g1, g2⟩ := bT.cells os (j + 1) l hh; refine ⟨fun k => if k = j then lc else lcs k, fun k A' ft => ?_, fun c2 il d g gI jh AK hg => ?_⟩
   · cases k with
     | zero =>
       simp only [bw, nth, Option.some.injEq] at ft; exact ⟨v, by simpa using q1 A' ft⟩
     | succ k =>
       have := g1 k A' ft; rw [show j + 1 + k = j + (k + 1) by omega] at this; show ∃ v, OwnAt c w (f (j + (k + 1))) (if j + (k + 1) = j then lc else lcs (j + (k + 1))) A' v; rw [if_neg (by omega)]; exact this
   · have fL := g2 c2 il d g gI (fun k hk => by
       have : c2.lc d (j + (k + 1)) = if j + (k + 1) = j then lc else lcs (j + (k + 1)) := jh (k + 1) (by simp; exact hk)
       rw [if_neg (by omega)] at this; rw [show j + 1 + k = j + (k + 1) by omega]; exact this) (fun k A' hk ft => by
         have := AK (k + 1) A' (by simp; exact hk) (by rw [show j + (k + 1) = j + 1 + k by omega]; exact ft); exact this) hg
     have h0 : c2.lc d j = lc := by
       have := jh 0 (by simp); simpa using this
     obtain ⟨x, e1, e2⟩ := q2 c2 il d g gI h0 (fun A hA => by
       have := AK 0 A (by simp) hA; simpa [bw, nth] using this) hg
     rw [e1]; refine ⟨by simp [fL.1], fun k y z hy hz => ?_⟩
     cases k with
     | zero =>
       simp only [List.getElem?_cons_zero, Option.some.injEq] at hy hz; subst hy hz; exact e2
     | succ k => exact fL.2 k y z (by simpa using hy) (by simpa using hz)
theorem kY.boxed {X : Lb → Prop} {w0 : World} {mu : Mu} {c : Cz} {st : St} {a : Act} {w : World} (h : kY X w0 mu c st a w) {b g i : Nat} {s0 : Sl} {Rg : List CV} {os : List OV} {v : Value} (jb : nth st b = some s0) (Cf : eR st b g = some Rg) (hv : v = .pointer (some ⟨c.bx b, 0, none⟩))
   (hB : Fb c w i os v) : ∃ c', kY (fun l => X l ∧ l ≠ .box b) w0 mu c' (nA (fun s => { s with box := some (bp b (s0.ag + 1) 0 os), aP := bw os, ag := s0.ag + 1 }) st b) a w ∧
     Fw c st w c' (nA (fun s => { s with box := some (bp b (s0.ag + 1) 0 os), aP := bw os, ag := s0.ag + 1 }) st b) w ∧ Pass c c' (fun l => (∀ y, l ≠ .cA i y) ∧ l ≠ .tg i) := by
 obtain ⟨oK, vs, ty, h1, h2, h3, h4⟩ := hB; obtain ⟨lcs, g1, g2⟩ := bT.cells os 0 _ h4; rw [hv] at h1; have e : c.bx b = oK := by injection h1 with h1; injection h1 with h1; injection h1
 obtain ⟨_, Xh, R1, PM⟩ := iF Cf; rw [jb] at Xh; cases Xh
 let c' := c.eT (qN i b) c.bx (fun s j => if s = b then lcs j else c.lc s j)
 let bh := nA (fun s => { s with box := some (bp b (s0.ag + 1) 0 os), aP := bw os, ag := s0.ag + 1 }) st b
 have hn : ∀ s, nth bh s = if s = b then some { s0 with box := some (bp b (s0.ag + 1) 0 os), aP := bw os, ag := s0.ag + 1 } else nth st s := by
   intro s; show nth (nA _ st b) s = _; rw [ec]
   by_cases e : s = b
   · subst e; simp [jb]
   · simp [e]
 have AM : ev bh b = s0.ag + 1 := by unfold ev; rw [hn]; simp
 have Hq : ev st b = s0.ag := by unfold ev; rw [jb]
 have ht := EG i b; have hY : Fw c st w c' bh w := {
   stays := oM c w _ _ _
   refs := fun a' j' g' A' hg ft => by
     obtain ⟨sl, k1, k2, k3⟩ := bN ft; rw [hn] at k1
     by_cases e : a' = b
     · rw [if_pos e] at k1
       cases k1
       subst e; simp only at k2; omega
     · rw [if_neg e] at k1; exact ⟨A', pg k1 k2 k3, rfl, rfl, by show (if a' = b then _ else _) = _; rw [if_neg e], fun _ => ⟨rfl, fun _ _ _ _ => rfl⟩⟩
   CI := fun b' g' ow hg I5 => by
     obtain ⟨sl, k1, k2, k3⟩ := iF I5; rw [hn] at k1
     by_cases e : b' = b
     · rw [if_pos e] at k1
       cases k1
       subst e; exact ⟨⟨Rg, by unfold eR; rw [jb]; simp at k2; simp [k2, PM]⟩, rfl⟩
     · rw [if_neg e] at k1; exact ⟨⟨ow, by unfold eR; rw [k1]; simp [k2, k3]⟩, rfl⟩
   gA := fun a' => by
     by_cases e : a' = b
     · subst e; rw [AM, Hq]; omega
     · unfold ev; rw [hn, if_neg e]; exact Nat.le_refl _
   gB := fun a' => by
     by_cases e : a' = b
     · subst e; unfold jg; rw [hn, if_pos rfl, jb]; exact Nat.le_refl _
     · unfold jg; rw [hn, if_neg e]; exact Nat.le_refl _
   gE := fun a' => by
     by_cases e : a' = b
     · subst e; unfold ou; rw [hn, if_pos rfl, jb]; exact Nat.le_refl _
     · unfold ou; rw [hn, if_neg e]; exact Nat.le_refl _ }
 have Hr : ∀ k A, bl bh b k (s0.ag + 1) = some A → nth (bw os) k = some (some A) := by
   intro k A hA; obtain ⟨sl, k1, k2, k3⟩ := bN hA; rw [hn, if_pos rfl] at k1
   cases k1
   exact k3
 refine ⟨c', h.eT ht hY (fun t => ?_) (fun s sl cs hX hs hb => ?_) (fun s j sl A hX hs hA => ?_), hY, ⟨fun k l hl hk => ?_, fun k hk => Cz.pf.2 hk⟩⟩
 · have : da bh t = da st t := by
     unfold da; rw [hn]
     by_cases e : t = b
     · subst e; rw [if_pos rfl, jb]
     · rw [if_neg e]
   rw [this]; exact hY.pG (h.gJ t)
 · rw [hn] at hs
   by_cases e' : s = b
   · subst e'; rw [if_pos rfl] at hs
     cases hs
     simp only [Option.some.injEq] at hb; subst hb; refine ⟨?_, vs, ty, by show w.heap[c.bx s]? = _; rw [e]; exact h3, ?_⟩
     · show (c.own (c.bx s)).map (qN i s) = some (.box s); rw [e, h2]; simp [qN]
     · exact g2 c' bh s (s0.ag + 1) (fun b hb => Cz.pf.2 hb) (fun k _ => by show (if s = s then _ else _) = _; rw [if_pos rfl]) (fun k A _ hA => Hr k A (by simpa using hA)) (by rw [AM]; exact Nat.le_refl _)
   · rw [if_neg e'] at hs; exact (h.boxes s sl cs (fun LI => hX ⟨LI, by rintro e2; injection e2 with e2; exact e' e2⟩) hs hb).eT ht hY rfl
 · rw [hn] at hs
   by_cases e' : s = b
   · subst e'; rw [if_pos rfl] at hs
     cases hs
     obtain ⟨v', oz⟩ := g1 j A hA; exact oz.arr (by simp) (by simp [qN])
   · rw [if_neg e'] at hs; exact (h.aP s j sl A (fun LI => hX ⟨LI, by simp⟩) hs hA).eT ht (by simp [e'])
 · show (c.own k).map (qN i b) = _; rw [hk]; simp only [Option.map_some, Option.some.injEq]
   cases l with
   | cA x y => simp only [qN]; rw [if_neg]; rintro rfl; exact hl.1 y rfl
   | tg x => simp only [qN]; rw [if_neg]; rintro rfl; exact hl.2 rfl
   | _ => rfl
end Go.TM
namespace Go.TM
open Go Go.RowKit
def Lb.Hs : Lb → Option Lb
 | .cA i j => some (.cA i j)
 | .tg i => some (.tg i)
 | .jc j => some (.jc j)
 | _ => none
noncomputable def Cz.merge (c c1 : Cz) (n : Nat) (m : Nat → Prop) : Cz :=
 { bx := c.bx, lc := c.lc, own := fun b => have := Classical.propDecidable (b < n ∧ ¬ m b); if b < n ∧ ¬ m b then c.own b else (c1.own b).bind Lb.Hs }
theorem Cz.tl {c c1 : Cz} {n : Nat} {m : Nat → Prop} {b : Nat} (h : b < n ∧ ¬ m b) : (c.merge c1 n m).own b = c.own b := by
 unfold Cz.merge; simp only; rw [if_pos h]
theorem Cz.AN {c c1 : Cz} {n : Nat} {m : Nat → Prop} {b : Nat} (h : ¬ (b < n ∧ ¬ m b)) : (c.merge c1 n m).own b = (c1.own b).bind Lb.Hs := by
 unfold Cz.merge; simp only; rw [if_neg h]
theorem rL (st : St) (s : Nat) : nth (zd st) s = (nth st s).map fun x => { x with ep := x.ep + 1 } := by
 unfold zd; rw [gO, gO, List.getElem?_map]
theorem LJ (st : St) (t : Nat) : da (zd st) t = da st t := by
 unfold da; rw [rL]
 cases nth st t <;> rfl
theorem LK (st : St) (a j g : Nat) : bl (zd st) a j g = bl st a j g := by
 unfold bl; rw [rL]
 cases nth st a <;> rfl
theorem LL (st : St) (b g : Nat) : eR (zd st) b g = eR st b g := by
 unfold eR; rw [rL]
 cases nth st b <;> rfl
theorem Ht (st : St) (a : Nat) : ev (zd st) a = ev st a ∧ jg (zd st) a = jg st a := by
 unfold ev jg; rw [rL]
 cases nth st a <;> exact ⟨rfl, rfl⟩
theorem Hu (st : St) (a : Nat) : ou st a ≤ ou (zd st) a ∧ (ou (zd st) a = ou st a → nth st a = none) := by
 unfold ou; rw [rL]
 cases nth st a <;> simp
theorem Rel.Xi {w0 : World} {mu : Mu} {c : Cz} {st : St} {a : Act} {w : World} (h : Rel w0 mu c st a w) {μ : Mu} {c1 : Cz} {w' : World} (hb : By w μ c1 w') {X : Lb → Prop} (hm : ∀ b, μ.m b → ∃ l, c.own b = some l ∧ X l) (hX : ∀ l, X l → l ≠ .out) :
   kY X w0 mu (c.merge c1 w.heap.size μ.m) (zd st) a w' ∧ Fw c st w (c.merge c1 w.heap.size μ.m) (zd st) w' ∧ (∀ b l, c.own b = some l → ¬ X l → w'.heap[b]? = w.heap[b]? ∧ (c.merge c1 w.heap.size μ.m).own b = c.own b) ∧ (∀ b l, l.Hs = some l → c1.own b = some l → (c.merge c1 w.heap.size μ.m).own b = some l) ∧ ((∀ b, μ.ok b → c.own b = none) → ∀ b, c1.ok b → (c.merge c1 w.heap.size μ.m).ok b) := by
 have mm : w.heap.size ≤ w'.heap.size := hb.kept.2.2.2; have s3 : jI w w' c.ok (c.merge c1 w.heap.size μ.m).ok := {
   size := mm
   block := fun b dm gI => hb.old b dm (fun E6 => by
     obtain ⟨l, hl, _⟩ := hm b E6; unfold Cz.ok at gI; rw [gI] at hl; cases hl)
   ok := fun b dm gI => by
     unfold Cz.ok; rw [Cz.tl ⟨dm, fun E6 => by
       obtain ⟨l, hl, _⟩ := hm b E6; unfold Cz.ok at gI; rw [gI] at hl; cases hl⟩]
     exact gI }
 have hY : Fw c st w (c.merge c1 w.heap.size μ.m) (zd st) w' := {
   stays := s3
   refs := fun a' j g A' _ hA => by
     rw [LK] at hA; refine ⟨A', hA, rfl, rfl, rfl, fun he => ?_⟩; have := (Hu st a').2 he; unfold bl at hA; rw [this] at hA
     cases hA
   CI := fun b g cs _ hc => ⟨⟨cs, by rwa [LL] at hc⟩, rfl⟩
   gA := fun a' => by rw [(Ht st a').1]; exact Nat.le_refl _
   gB := fun a' => by rw [(Ht st a').2]; exact Nat.le_refl _
   gE := fun a' => (Hu st a').1 }
 have keep : ∀ b l, c.own b = some l → ¬ X l → w'.heap[b]? = w.heap[b]? ∧ (c.merge c1 w.heap.size μ.m).own b = c.own b := by
   intro b l hl hn; have dm := (h.owned b l hl).1; have E6 : ¬ μ.m b := fun E6 => by
     obtain ⟨l', xG, hx⟩ := hm b E6; rw [hl] at xG; cases xG; exact hn hx
   exact ⟨hb.old b dm E6, Cz.tl ⟨dm, E6⟩⟩
 refine ⟨⟨fun t => by rw [LJ]; exact hY.pG (h.gJ t), fun s sl cs hn hs Cf => ?_, fun s j sl A hn hs hA => ?_, fun b l hl => ?_, fun b dm hl => ?_, ?_, fun k hk hmu => ?_, h.plain, fun p hp => hY.fw (h.fw p hp)⟩, hY, keep, fun b l hk hl => ?_, fun gI b h1 => ?_⟩
 · rw [rL] at hs; obtain ⟨Rl, jb, rfl⟩ := Option.map_eq_some_iff.1 hs; have h0 := h.boxes s Rl cs jb Cf; obtain ⟨k1, k2⟩ := keep _ _ h0.1 hn; exact h0.go hY rfl k2 k1
 · rw [rL] at hs; obtain ⟨Rl, jb, rfl⟩ := Option.map_eq_some_iff.1 hs; have h0 := h.aP s j Rl A jb hA; exact h0.go s3 rfl (fun b g1 => keep b _ g1 hn)
 · by_cases e : b < w.heap.size ∧ ¬ μ.m b
   · rw [Cz.tl e] at hl; have := h.owned b l hl; exact ⟨Nat.lt_of_lt_of_le this.1 mm, this.2⟩
   · rw [Cz.AN e] at hl; obtain ⟨k, hk, e2⟩ := Option.bind_eq_some_iff.1 hl; obtain ⟨g1, g2⟩ := hb.owned b k hk; refine ⟨g1, .inr ?_⟩; have Bt : k ≠ .out := by rintro rfl; simp [Lb.Hs] at e2
     by_cases dm : b < w.heap.size
     · have E6 : μ.m b := Classical.not_not.1 (fun h => e ⟨dm, h⟩); obtain ⟨l', xG, hx⟩ := hm b E6; rcases (h.owned b l' xG).2 with q | q
       · exact absurd q (hX l' hx)
       · exact q
     · have := h.kept.2.2.2; exact .inl (by omega)
 · by_cases e : b < w.heap.size ∧ ¬ μ.m b
   · rw [Cz.tl e] at hl; exact h.free b dm hl
   · have Sj : b < w.heap.size := Nat.lt_of_lt_of_le dm h.kept.2.2.2; have E6 : μ.m b := Classical.not_not.1 (fun h => e ⟨Sj, h⟩); obtain ⟨l', xG, hx⟩ := hm b E6; rcases (h.owned b l' xG).2 with q | q | q
     · exact absurd q (hX l' hx)
     · omega
     · exact .inl q
 · exact ⟨hb.kept.1.trans h.kept.1, hb.kept.2.1.trans h.kept.2.1, hb.kept.2.2.1.trans h.kept.2.2.1, Nat.le_trans h.kept.2.2.2 mm⟩
 · have Sj : k < w.heap.size := Nat.lt_of_lt_of_le hk h.kept.2.2.2; rw [hb.old k Sj (fun E6 => ?_)]
   · exact h.old k hk hmu
   · obtain ⟨l', xG, hx⟩ := hm k E6; rcases (h.owned k l' xG).2 with q | q | q
     · exact hX l' hx q
     · omega
     · exact hmu q
 · rw [Cz.AN (fun e => ?_), hl]
   · exact hk
   · rcases (hb.owned b l hl).2 with q | q | q
     · subst q; simp [Lb.Hs] at hk
     · omega
     · exact e.2 q
 · unfold Cz.ok at h1 ⊢
   by_cases e : b < w.heap.size ∧ ¬ μ.m b
   · rw [Cz.tl e]; rcases hb.free b e.1 h1 with q | q
     · exact absurd q e.2
     · exact gI b q
   · rw [Cz.AN e, h1]; rfl
theorem Cz.Hv (c : Cz) (bx : Nat → Nat) (lc : Nat → Nat → Loc) : (c.eT id bx lc).own = c.own := by
 funext b
 unfold Cz.eT; simp
theorem x7 {w0 : World} {mu : Mu} {a : Act} {w : World} : (ks : List Lb) → {X : Lb → Prop} → {c : Cz} → {st : St} → kY X w0 mu c st a w →
   ∃ c', kY (fun l => X l ∧ ∀ s j, Lb.sp s j ∈ ks → l ≠ .sp s j) w0 mu c' (pb st ks) a w ∧ Fw c st w c' (pb st ks) w ∧ c'.own = c.own
 | [], X, c, st, h => ⟨c, h.mono (fun l hl => ⟨hl, by simp⟩), Fw.refl c st w, rfl⟩
 | k :: ks, X, c, st, h => by
   have skip : pb st (k :: ks) = pb st ks → (∀ s j, k ≠ .sp s j) → ∃ c', kY (fun l => X l ∧ ∀ s j, Lb.sp s j ∈ k :: ks → l ≠ .sp s j) w0 mu c' (pb st (k :: ks)) a w ∧ Fw c st w c' (pb st (k :: ks)) w ∧ c'.own = c.own := by
     intro e hk; obtain ⟨c', h1, h2, h3⟩ := x7 ks h; rw [e]; refine ⟨c', h1.mono (fun l hl => ⟨hl.1, fun s j hm => ?_⟩), h2, h3⟩; rcases List.mem_cons.1 hm with e2 | hm
     · exact absurd e2.symm (hk s j)
     · exact hl.2 s j hm
   cases k with
   | sp s j =>
     obtain ⟨h1, h2⟩ := h.kill s j; obtain ⟨c', h3, h4, h5⟩ := x7 ks h1; refine ⟨c', h3.mono (fun l hl => ⟨hl.1.1, fun s' j' hm => ?_⟩), h2.trans h4, h5.trans (Cz.Hv _ _ _)⟩; rcases List.mem_cons.1 hm with e2 | hm
     · cases e2; exact hl.1.2
     · exact hl.2 s' j' hm
   | _ => exact skip rfl (by simp)
def AO (m : Pm) : V → List Lb
 | .one (.ptr b _ _) => [.box b]
 | .one (.ref a j _ _) => match m with
   | .io => [.sp a j]
   | _ => []
 | .agg cs => match m with
   | .bW => cs.filterMap fun x => match x with | .ref a j _ _ => some (.sp a j) | _ => none
   | _ => []
 | _ => []
def NJ (st : St) (m : Pm × V) (av : AV) : Prop := ∃ u q r, eS st m.1 m.2 = some (av, u, q, r)
theorem Hw {st : St} {own : Bool} : (cs : List CV) → {os : List OV} → {u : List (Option Lb)} → {r : List (Nat × Nat)} → fC st own cs = some (os, u, r) → ∀ (k : Nat) {a j g : Nat} , cs[k]? = some (.ref a j g .full) → os[k]? = (bl st a j g).map fun A => bif own && A.own then .own A else .shr A.r A.xs
 | [], _, _, _, h => by intro k a j g hk; simp at hk
 | x :: cs, os, u, r, h => by
   unfold fC at h
   cases hc : gu st own x with
   | none => simp [hc] at h
   | some p =>
     obtain ⟨o, u1, r1⟩ := p
     cases hq : fC st own cs with
     | none => simp [hc, hq] at h
     | some q =>
       obtain ⟨zw, us, rs⟩ := q; simp only [hc, hq, Option.some.injEq, Prod.mk.injEq] at h; obtain ⟨rfl, rfl, _⟩ := h; intro k a j g hk
       cases k with
       | succ k => simpa using Hw cs hq k (by simpa using hk)
       | zero =>
         simp only [List.getElem?_cons_zero, Option.some.injEq] at hk; subst hk; unfold gu at hc; simp only at hc
         cases hA : bl st a j g with
         | none => simp [hA] at hc
         | some A =>
           simp only [hA] at hc
           cases hm : A.md.is .ho with
           | true => simp [hm] at hc
           | false =>
           simp only [hm, cond_false, View.isFull, Bool.or_true, Bool.and_true] at hc
           cases hb : (own && A.own) <;> simp only [hb, cond_true, cond_false, Option.some.injEq, Prod.mk.injEq] at hc <;> obtain ⟨rfl, _⟩ := hc <;> simp [hb, View.app]
theorem Db {w0 wb : World} {mu : Mu} {a : Act} {w : World} {c0 : Cz} {wu : St} {i : Nat} {As : List (Option iN)} : (cs : List CV) → (j0 : Nat) → (us : List Value) → {X : Lb → Prop} → {c : Cz} → {st bh : St} → kY X w0 mu c st a w → Fw c0 wu wb c st w →
   (∀ (k : Nat) (x : CV) (v : Value), cs[k]? = some x → us[k]? = some v → kX c0 wu wb x v) →
   (∀ (k s j g : Nat) (vw : View), cs[k]? = some (.ref s j g vw) → ∃ A B u, bl wu s j g = some A ∧ nth As (j0 + k) = some (some B) ∧ us[k]? = some u ∧ B.r.width = A.r.width ∧ B.xs.length = A.xs.length ∧ OwnAt c w (.cA i (j0 + k)) (c0.lc s j) B u) →
   CG st j0 cs As = some bh →
   ∃ c', kY (fun l => X l ∧ ∀ s j g vw, CV.ref s j g vw ∈ cs → l ≠ .sp s j) w0 mu c' bh a w ∧ Fw c0 wu wb c' bh w ∧ Pass c c' (fun l => ∀ y, l ≠ .cA i y)
 | [], j0, us, X, c, st, bh, h, hY, _, _, hv => by
   simp only [CG, Option.some.injEq] at hv; subst hv; exact ⟨c, h.mono (fun l hl => ⟨hl, by simp⟩), hY, ⟨fun _ _ _ h => h, fun _ h => h⟩⟩
 | x :: cs, j0, us, X, c, st, bh, h, hY, hr, hB, hv => by
   have skip : (∀ s j g vw, x ≠ .ref s j g vw) → CG st (j0 + 1) cs As = some bh → ∃ c', kY (fun l => X l ∧ ∀ s j g vw, CV.ref s j g vw ∈ x :: cs → l ≠ .sp s j) w0 mu c' bh a w ∧ Fw c0 wu wb c' bh w ∧ Pass c c' (fun l => ∀ y, l ≠ .cA i y) := by
     intro hx hv; obtain ⟨c', g1, g2, g3⟩ := Db (i := i) cs (j0 + 1) us.tail h hY (fun k y v hk hv => hr (k + 1) y v (by simpa using hk) (by simpa using hv)) (fun k s j g vw hk => by
       obtain ⟨A, B, u, q1, q2, q3, q4, q5, q6⟩ := hB (k + 1) s j g vw (by simpa using hk); refine ⟨A, B, u, q1, by rw [show j0 + 1 + k = j0 + (k + 1) by omega]; exact q2, by simpa using q3, q4, q5, by rw [show j0 + 1 + k = j0 + (k + 1) by omega]; exact q6⟩) hv
     refine ⟨c', g1.mono (fun l hl => ⟨hl.1, fun s j g vw hm => ?_⟩), g2, g3⟩; rcases List.mem_cons.1 hm with e | hm
     · exact absurd e.symm (hx s j g vw)
     · exact hl.2 s j g vw hm
   cases x with
   | ref s j g vw =>
     unfold CG at hv
     split at hv
     · rename_i B A1 R2 Xj; obtain ⟨A, B', u, q1, q2, q3, q4, q5, q6⟩ := hB 0 s j g vw rfl; rw [Nat.add_zero] at q2 q6; rw [R2] at q2; simp only [Option.some.injEq] at q2; subst q2; have Xk := hr 0 _ u rfl q3; obtain ⟨A0', p1, p2, p3, p4, _⟩ := hY.refs s j g A1 Xk.2.1 Xj; rw [q1] at p1; cases p1; have hO' : OwnAt c w (.cA i j0) (c.lc s j) B u := by rw [p4]; exact q6
       obtain ⟨g1, g2⟩ := h.io Xj (q4.trans p2.symm) (q5.trans p3.symm) hO'; have Ff : ∀ b l, l ≠ .cA i j0 → c.own b = some l → (c.eT (s6 i j0 s j) c.bx c.lc).own b = some l := by
         intro b l hl hb; show (c.own b).map _ = _; rw [hb]; simp only [Option.map_some, Option.some.injEq]
         cases l with
         | cA x y => simp only [s6]; rw [if_neg]; rintro ⟨rfl, rfl⟩; exact hl rfl
         | _ => rfl
       obtain ⟨c', k1, k2, k3⟩ := Db (i := i) cs (j0 + 1) us.tail g1 (hY.trans g2) (fun k y v hk hv => hr (k + 1) y v (by simpa using hk) (by simpa using hv)) (fun k s' j' g' vw' hk => by
         obtain ⟨A, B, u, q1, q2, q3, q4, q5, q6⟩ := hB (k + 1) s' j' g' vw' (by simpa using hk); refine ⟨A, B, u, q1, by rw [show j0 + 1 + k = j0 + (k + 1) by omega]; exact q2, by simpa using q3, q4, q5, ?_⟩; rw [show j0 + 1 + k = j0 + (k + 1) by omega]; exact q6.pass (fun b hb => Ff b _ (by simp) hb) (.inl fun b hb => Cz.pf.2 hb)) hv
       refine ⟨c', k1.mono (fun l hl => ⟨hl.1.1, fun s' j' g' vw' hm => ?_⟩), k2, ⟨fun b l hl hb => k3.cA b l hl (Ff b l (hl j0) hb), fun b hb => k3.ok b (Cz.pf.2 hb)⟩⟩; rcases List.mem_cons.1 hm with e | hm
       · cases e; exact hl.1.2
       · exact hl.2 s' j' g' vw' hm
     · cases hv
   | _ => exact skip (by simp) hv
theorem Dc {w0 wb : World} {mu : Mu} {a : Act} {w : World} {c0 : Cz} {wu : St} {lc : Nat → Nat → Loc} : (ms : List (Pm × V)) → (i : Nat) → (eg : List AV) → (xs : List Value) → (es : List XV) → {X : Lb → Prop} → {c : Cz} → {st bh : St} → kY X w0 mu c st a w → Fw c0 wu wb c st w →
   (∀ (k : Nat) (m : Pm × V) (x : Value), ms[k]? = some m → xs[k]? = some x → fY c0 wu wb m.2 x) → (∀ (k : Nat) (m : Pm × V) (av : AV), ms[k]? = some m → eg[k]? = some av → NJ wu m av) → ms.length = eg.length → ms.length = xs.length → (∀ (k : Nat) (m : Pm × V), ms[k]? = some m → lc (i + k) = Bz c0 m.2) →
   iR c w lc i eg xs es → uc st ms es = some bh →
   ∃ c', kY (fun l => X l ∧ ∀ m ∈ ms, l ∉ AO m.1 m.2) w0 mu c' bh a w ∧ Fw c0 wu wb c' bh w ∧ Pass c c' (fun l => (∃ j, l = .jc j) ∨ l.real = true)
 | [], i, eg, xs, es, X, c, st, bh, h, hY, _, _, _, _, _, hx, hv => by
   cases es with
   | nil =>
     simp only [uc, Option.some.injEq] at hv; subst hv; exact ⟨c, h.mono (fun l hl => ⟨hl, by simp⟩), hY, ⟨fun _ _ _ h => h, fun _ h => h⟩⟩
   | cons _ _ => simp [uc] at hv
 | (m, v) :: ms, i, [], xs, es, X, c, st, bh, h, hY, hr, he, hn, hn2, jh, hx, hv => by simp at hn
 | (m, v) :: ms, i, av :: eg, [], es, X, c, st, bh, h, hY, hr, he, hn, hn2, jh, hx, hv => by simp at hn2
 | (m, v) :: ms, i, av :: eg, x :: xs, es, X, c, st, bh, h, hY, hr, he, hn, hn2, jh, hx, hv => by
   have Xk := hr 0 (m, v) x rfl rfl; obtain ⟨u, q, r, sA⟩ := he 0 (m, v) av rfl rfl; have Sk := jh 0 (m, v) rfl; simp only [Nat.add_zero] at Sk; have hr' : ∀ (k : Nat) (m : Pm × V) (x : Value), ms[k]? = some m → xs[k]? = some x → fY c0 wu wb m.2 x := fun k m' x' h1 h2 => hr (k + 1) m' x' (by simpa using h1) (by simpa using h2)
   have RX : ∀ (k : Nat) (m : Pm × V) (av : AV), ms[k]? = some m → eg[k]? = some av → NJ wu m av := fun k m' x' h1 h2 => he (k + 1) m' x' (by simpa using h1) (by simpa using h2)
   have R8 : ∀ (k : Nat) (m : Pm × V), ms[k]? = some m → lc (i + 1 + k) = Bz c0 m.2 := fun k m' h1 => by
     have := jh (k + 1) m' (by simpa using h1)
     rwa [show i + (k + 1) = i + 1 + k by omega] at this
   have Lr : ms.length = eg.length := by simpa using hn
   have acy : ms.length = xs.length := by simpa using hn2
   unfold uc at hv
   cases hb : sC st m v es with
   | none => simp [hb] at hv
   | some p =>
     obtain ⟨AD, es1⟩ := p; simp only [hb] at hv; have go : ∀ {X1 : Lb → Prop} {c1 : Cz}, kY X1 w0 mu c1 AD a w → Fw c0 wu wb c1 AD w → (∀ l, X1 l → X l ∧ l ∉ AO m v) → iR c1 w lc (i + 1) eg xs es1 → Pass c c1 (fun l => (∃ j, l = .jc j) ∨ l.real = true) →
         ∃ c', kY (fun l => X l ∧ ∀ m' ∈ (m, v) :: ms, l ∉ AO m'.1 m'.2) w0 mu c' bh a w ∧ Fw c0 wu wb c' bh w ∧ Pass c c' (fun l => (∃ j, l = .jc j) ∨ l.real = true) := by
       intro X1 c1 g1 g2 g3 g4 g5; obtain ⟨c', k1, k2, k3⟩ := Dc ms (i + 1) eg xs es1 g1 g2 hr' RX Lr acy R8 g4 hv; refine ⟨c', k1.mono (fun l hl => ⟨(g3 l hl.1).1, fun m' E6 => ?_⟩), k2, ⟨fun b l hl hb => k3.cA b l hl (g5.cA b l hl hb), fun b hb => k3.ok b (g5.ok b hb)⟩⟩; rcases List.mem_cons.1 E6 with rfl | E6
       · exact (g3 l hl.1).2
       · exact hl.2 m' E6
     have lL : AO m v = [] → AD = st → es1 = es → (∃ ag os, av = .val ag os) → ∃ c', kY (fun l => X l ∧ ∀ m' ∈ (m, v) :: ms, l ∉ AO m'.1 m'.2) w0 mu c' bh a w ∧ Fw c0 wu wb c' bh w ∧ Pass c c' (fun l => (∃ j, l = .jc j) ∨ l.real = true) := by
       rintro e1 rfl rfl ⟨ag, os, rfl⟩
       exact go h hY (fun l hl => ⟨hl, by rw [e1]; simp⟩) hx ⟨fun _ _ _ h => h, fun _ h => h⟩
     cases v with
     | ot us => simp [eS] at sA
     | agg cs =>
       have rM : ∀ u q r, (match fC wu m.oD cs with | some (os, u, r) => some (AV.val true os, cq u, cq u, r) | none => none) = some (av, u, q, r) → ∃ ag os, av = .val ag os := by
         intro u q r sA
         cases hq : fC wu m.oD cs with
         | none => simp [hq] at sA
         | some p =>
           obtain ⟨os, us, rs⟩ := p; simp only [hq, Option.some.injEq, Prod.mk.injEq] at sA; exact ⟨_, _, sA.1.symm⟩
       unfold eS at sA
       cases m with
       | shr =>
         simp only [sC, Option.some.injEq, Prod.mk.injEq] at hb; exact lL rfl hb.1.symm hb.2.symm (rM _ _ _ sA)
       | own =>
         simp only [sC, Option.some.injEq, Prod.mk.injEq] at hb; exact lL rfl hb.1.symm hb.2.symm (rM _ _ _ sA)
       | pick _ =>
         simp only [sC, Option.some.injEq, Prod.mk.injEq] at hb; exact lL rfl hb.1.symm hb.2.symm (rM _ _ _ sA)
       | io =>
         simp only [sC, Option.some.injEq, Prod.mk.injEq] at hb; exact lL rfl hb.1.symm hb.2.symm (rM _ _ _ sA)
       | bW =>
         simp only at sA
         cases hq : fC wu true cs with
         | none => simp [hq] at sA
         | some p =>
           obtain ⟨os, us, rs⟩ := p; simp only [hq] at sA; obtain ⟨qk, xr⟩ := aH sA; simp only [Option.some.injEq, Prod.mk.injEq] at xr; obtain ⟨rfl, _⟩ := xr; obtain ⟨As, l, rfl, ⟨us', rfl, hX⟩, fL⟩ := hx; unfold sC at hb; obtain ⟨il, LM, e2⟩ := Option.map_eq_some_iff.1 hb; injection e2 with e2 e3; subst e2 e3; obtain ⟨vs0, e0, hl0⟩ := Xk; injection e0 with e0; subst e0; obtain ⟨c1, g1, g2, g3⟩ := Db (i := i) (As := As) cs 0 us'.toList h hY (fun k x v hk hv => hl0.2 k x v hk (by simpa using hv)) (fun k s j g vw hk => by
             have Cg := List.mem_of_getElem? hk; have C7 := List.all_eq_true.1 qk _ Cg; unfold Nl at C7; rw [Bool.and_eq_true] at C7
             cases hA : bl wu s j g with
             | none => rw [hA] at C7; cases C7.2
             | some A =>
               have NI : vw = .full := by
                 cases vw with
                 | full => rfl
                 | «from» _ => cases C7.1
                 | sub _ _ => cases C7.1
               subst NI; rw [hA] at C7; have ho : os[k]? = some (.own A) := by
                 have := Hw cs hq k hk; rw [hA] at this; have Jf : A.own = true := C7.2; simpa [Jf] using this
               obtain ⟨B, u, k1, k2, k3, k4, k5⟩ := hX k A ho; refine ⟨A, B, u, rfl, by rw [Nat.zero_add]; exact k1, k2, k3, k4, ?_⟩; have : lc i k = c0.lc s j := by
                 rw [Sk]; show Ji c0 cs[k]? = _; rw [hk]; rfl
               rw [← this, Nat.zero_add]; exact k5) LM
           refine go g1 g2 (fun l hl => ⟨hl.1, fun hm => ?_⟩) ?_ ⟨fun b l hl => g3.cA b l (hl.elim (by rintro ⟨j, rfl⟩; simp) (by intro h; cases l <;> simp_all [Lb.real])), g3.ok⟩
           · obtain ⟨x, I8, EE⟩ := List.mem_filterMap.1 hm
             cases x with
             | ref s j g vw => simp only [Option.some.injEq] at EE; exact hl.2 s j g vw I8 EE.symm
             | _ => cases EE
           · exact iR.pass eg (i + 1) (fun b k hk hb => g3.cA b _ (by simp) hb) (fun b k j hk hb => g3.cA b _ (by intro y; simp; omega) hb) xs _ (.inl g3.ok) fL
     | one cx =>
       cases cx with
       | ptr b g off =>
         unfold sC at hb
         cases es with
         | nil => simp at hb
         | cons e es2 => cases e with
           | io _ => simp at hb
           | bW _ => simp at hb
           | box os =>
             simp only at hb
             split at hb
             · rename_i s0 Rg jb PM; simp only [Option.some.injEq, Prod.mk.injEq] at hb; obtain ⟨rfl, rfl⟩ := hb; have Hy : ∃ os0, av = .box os0 := by
                 unfold eS at sA; simp only at sA
                 cases hq : eR wu b g with
                 | none => simp [hq] at sA
                 | some cs =>
                   simp only [hq] at sA
                   cases I9 : fC wu true cs with
                   | none => simp [I9] at sA
                   | some p =>
                     obtain ⟨zw, us, rs⟩ := p; simp only [I9] at sA; obtain ⟨_, xr⟩ := aH sA; simp only [Option.some.injEq, Prod.mk.injEq] at xr; exact ⟨_, xr.1.symm⟩
               obtain ⟨os0, rfl⟩ := Hy; obtain ⟨os1, l, e1, hB, fL⟩ := hx
               cases e1
               have hp := (hY.pG (v := x) Xk); have e2 := hp.2.2 Rg PM; have e3 : x = .pointer (some ⟨c.bx b, 0, none⟩) := by
                 obtain ⟨oK, vs, ty, q1, _⟩ := hB; rw [e2] at q1 ⊢; injection q1 with q1; injection q1 with q1; injection q1 with q1 q2; rw [q2]
               obtain ⟨c1, g1, g2, g3⟩ := h.boxed jb PM e3 hB; refine go g1 (hY.trans g2) (fun l hl => ⟨hl.1, by simp [AO]; exact hl.2⟩) ?_ ⟨fun b l hl => g3.cA b l (hl.elim (by rintro ⟨j, rfl⟩; simp) (by intro h; cases l <;> simp_all [Lb.real])), g3.ok⟩; exact iR.pass eg (i + 1) (fun b k hk hb => g3.cA b _ (by constructor <;> simp; omega) hb) (fun b k j hk hb => g3.cA b _ (by constructor <;> simp; omega) hb) xs es2 (.inl g3.ok) fL
             · cases hb
       | ref s j g vw =>
         have rM : m ≠ .io → ∃ ag os, av = .val ag os := by
           intro hm; unfold eS at sA
           cases m with
           | io => exact absurd rfl hm
           | shr =>
             cases hq : fC wu Pm.shr.oD [.ref s j g vw] with
             | none => simp [hq] at sA
             | some p => obtain ⟨os, us, rs⟩ := p; simp only [hq, Option.some.injEq, Prod.mk.injEq] at sA; exact ⟨_, _, sA.1.symm⟩
           | bW =>
             cases hq : fC wu Pm.bW.oD [.ref s j g vw] with
             | none => simp [hq] at sA
             | some p => obtain ⟨os, us, rs⟩ := p; simp only [hq, Option.some.injEq, Prod.mk.injEq] at sA; exact ⟨_, _, sA.1.symm⟩
           | own =>
             cases hq : fC wu Pm.own.oD [.ref s j g vw] with
             | none => simp [hq] at sA
             | some p => obtain ⟨os, us, rs⟩ := p; simp only [hq, Option.some.injEq, Prod.mk.injEq] at sA; exact ⟨_, _, sA.1.symm⟩
           | pick pl =>
             cases hq : fC wu (Pm.pick pl).oD [.ref s j g vw] with
             | none => simp [hq] at sA
             | some p => obtain ⟨os, us, rs⟩ := p; simp only [hq, Option.some.injEq, Prod.mk.injEq] at sA; exact ⟨_, _, sA.1.symm⟩
         cases m with
         | shr =>
           simp only [sC, Option.some.injEq, Prod.mk.injEq] at hb; exact lL rfl hb.1.symm hb.2.symm (rM (by simp))
         | bW =>
           simp only [sC, Option.some.injEq, Prod.mk.injEq] at hb; exact lL rfl hb.1.symm hb.2.symm (rM (by simp))
         | own =>
           simp only [sC, Option.some.injEq, Prod.mk.injEq] at hb; exact lL rfl hb.1.symm hb.2.symm (rM (by simp))
         | pick _ =>
           simp only [sC, Option.some.injEq, Prod.mk.injEq] at hb; exact lL rfl hb.1.symm hb.2.symm (rM (by simp))
         | io =>
           unfold sC at hb; simp only at hb
           split at hb
           · rename_i B es2 A2 Jf; simp only [Option.some.injEq, Prod.mk.injEq] at hb; obtain ⟨rfl, rfl⟩ := hb; have Hy : ∃ A0, av = .io A0 ∧ bl wu s j g = some A0 := by
               unfold eS at sA
               cases vw with
               | full =>
                 cases hA : bl wu s j g with
                 | none => simp [hA] at sA
                 | some A =>
                   simp only [hA] at sA; obtain ⟨_, xr⟩ := aH sA; simp only [Option.some.injEq, Prod.mk.injEq] at xr; exact ⟨A, xr.1.symm, rfl⟩
               | «from» _ => simp at sA
               | sub _ _ => simp at sA
             obtain ⟨A0, rfl, I7⟩ := Hy; obtain ⟨B', l, e1, hw, hlen, hO, fL⟩ := hx
             cases e1
             obtain ⟨A0', q1, q2, q3, q4, _⟩ := hY.refs s j g A2 Xk.2.1 Jf; rw [I7] at q1; cases q1; have hO' : OwnAt c w (.cA i 0) (c.lc s j) B x := by
               rw [q4]; have : lc i 0 = c0.lc s j := by rw [Sk]; rfl
               rw [← this]; exact hO
             obtain ⟨g1, g2⟩ := h.io Jf (hw.trans q2.symm) (hlen.trans q3.symm) hO'; have Ff : ∀ b l, (∀ y, l ≠ .cA i y) → c.own b = some l → (c.eT (s6 i 0 s j) c.bx c.lc).own b = some l := by
               intro b l hl hb; show (c.own b).map _ = _; rw [hb]; simp only [Option.map_some, Option.some.injEq]
               cases l with
               | cA x y => simp only [s6]; rw [if_neg]; rintro ⟨rfl, _⟩; exact hl y rfl
               | _ => rfl
             refine go g1 (hY.trans g2) (fun l hl => ⟨hl.1, by simp [AO]; exact hl.2⟩) ?_ ⟨fun b l hl => Ff b l (hl.elim (by rintro ⟨j, rfl⟩; simp) (by intro h; cases l <;> simp_all [Lb.real])), fun b hb => Cz.pf.2 hb⟩; exact iR.pass eg (i + 1) (fun b k hk hb => Ff b _ (by simp) hb) (fun b k j hk hb => Ff b _ (by intro y; simp; omega) hb) xs es2 (.inl fun b hb => Cz.pf.2 hb) fL
           · cases hb
       | _ =>
         simp only [sC, Option.some.injEq, Prod.mk.injEq] at hb; refine lL rfl hb.1.symm hb.2.symm ?_; unfold eS at sA; simp only at sA
         split at sA
         · simp only [Option.some.injEq, Prod.mk.injEq] at sA; exact ⟨_, _, sA.1.symm⟩
         · cases sA
end Go.TM
namespace Go.TM
open Go Go.RowKit
def zC (d : Nat) : Lb → Lb
 | .jc j => .sp d j
 | l => l
theorem xM (d : Nat) : BA (zC d) := ⟨fun l h => by cases l <;> simp [zC, Lb.real] at h ⊢⟩
theorem vK : (os ps : List OV) → bw (os ++ ps) = bw os ++ bw ps
 | [], ps => rfl
 | o :: os, ps => by simp [bw, vK os ps]
theorem mI : (os : List OV) → (bw os).length = os.length
 | [] => rfl
 | o :: os => by simp [bw, mI os]
theorem NK (d g j : Nat) (o : OV) : ∃ x, bp d g j [o] = [x] := by
 cases o <;> exact ⟨_, rfl⟩
theorem l9.vals {c : Cz} {w : World} : (rs : List RV) → (j : Nat) → (vs : List Value) → l9 c w j rs vs →
   ∃ lcs : Nat → Loc, (∀ k A, nth (bw (rs.flatMap RV.vV)) k = some (some A) → ∃ v, OwnAt c w (.jc (j + k)) (lcs (j + k)) A v) ∧ rs.length = vs.length ∧ (∀ d g, (kO d g j rs).length = rs.length) ∧
     ∀ (c2 : Cz) (il : St) (d g : Nat), (∀ b, c.ok b → c2.ok b) → (∀ k, k < (rs.flatMap RV.vV).length → c2.lc d (j + k) = lcs (j + k)) → (∀ k A, k < (rs.flatMap RV.vV).length → bl il d (j + k) g = some A → nth (bw (rs.flatMap RV.vV)) k = some (some A)) → g ≤ ev il d →
       ∀ (k : Nat) (x : V) (v : Value), (kO d g j rs)[k]? = some x → vs[k]? = some v → zf c2 il w x v
 | [], j, vs, h => by
   subst h; exact ⟨fun _ => .nil, fun k A hA => by simp [bw] at hA, rfl, fun _ _ => rfl, fun _ _ _ _ _ _ _ _ k x v hx => by simp [kO] at hx⟩
 | r :: rs, j, vs, h => by
   obtain ⟨v, l, us, rfl, hL, hR, hV⟩ : ∃ (v : Value) (l us : List Value), vs = v :: l ∧ bT c w .jc j r.vV us ∧ l9 c w (j + r.vV.length) rs l ∧
       (∀ (c2 : Cz) (il : St) (d g : Nat), fX c2 il w (bp d g j r.vV) us → zf c2 il w (Nf d g j r) v) := by
     cases r with
     | one o =>
       obtain ⟨v, l, h1, h2, h3⟩ := h; refine ⟨v, l, [v], h1, h2, h3, fun c2 il d g hl => ?_⟩; unfold Nf; obtain ⟨x, hx⟩ := NK d g j o; show zf c2 il w (match bp d g j [o] with | [c] => .one c | _ => .one .bad) v; have hl : fX c2 il w (bp d g j [o]) [v] := hl; rw [hx] at hl ⊢; exact hl.2 0 x v rfl rfl
     | agg os =>
       obtain ⟨us, l, h1, h2, h3⟩ := h; exact ⟨.agg us, l, us.toList, h1, h2, h3, fun c2 il d g hl => ⟨us, rfl, hl⟩⟩
     | ptr os =>
       obtain ⟨v, l, h1, ⟨oK, us, ty, _, _, _, g4⟩, h3⟩ := h; exact ⟨v, l, .slice none 0 0 :: us.toList, h1, ⟨_, rfl, g4⟩, h3, fun _ _ _ _ _ => trivial⟩
   obtain ⟨l1, a1, a2⟩ := bT.cells r.vV j us hL; obtain ⟨l2, b1, b2, b3, b4⟩ := l9.vals rs (j + r.vV.length) l hR; have Rm : bw ((r :: rs).flatMap RV.vV) = bw r.vV ++ bw (rs.flatMap RV.vV) := by
     rw [List.flatMap_cons, vK]
   refine ⟨fun k => if k < j + r.vV.length then l1 k else l2 k, fun k A hA => ?_, by simp [b2], fun d g => by simp [kO, b3], fun c2 il d g gI jh AK hg k x v' hx oz => ?_⟩
   · rw [Rm, mU, mI] at hA
     by_cases e : k < r.vV.length
     · rw [if_pos e] at hA; have := a1 k A hA; show ∃ v, OwnAt c w _ (if j + k < _ then _ else _) A v; rw [if_pos (by omega)]; exact this
     · rw [if_neg e] at hA; have := b1 _ A hA; rw [show j + r.vV.length + (k - r.vV.length) = j + k by omega] at this; show ∃ v, OwnAt c w _ (if j + k < _ then _ else _) A v; rw [if_neg (by omega)]; exact this
   · rw [Rm] at AK; rw [List.flatMap_cons, List.length_append] at jh AK
     cases k with
     | zero =>
       simp only [kO, List.getElem?_cons_zero, Option.some.injEq] at hx oz; subst hx oz; refine hV c2 il d g (a2 c2 il d g gI (fun k hk => ?_) (fun k A hk hA => ?_) hg)
       · have : c2.lc d (j + k) = if j + k < j + r.vV.length then l1 (j + k) else l2 (j + k) := jh k (by omega)
         rwa [if_pos (by omega)] at this
       · have := AK k A (by omega) hA
         rwa [mU, mI, if_pos hk] at this
     | succ k =>
       refine b4 c2 il d g gI (fun k hk => ?_) (fun k A hk hA => ?_) hg k x v' (by simpa [kO] using hx) (by simpa using oz)
       · have : c2.lc d (j + (r.vV.length + k)) = if j + (r.vV.length + k) < j + r.vV.length then l1 (j + (r.vV.length + k)) else l2 (j + (r.vV.length + k)) := jh (r.vV.length + k) (by omega)
         rw [if_neg (by omega)] at this; rw [Nat.add_assoc]; exact this
       · rw [Nat.add_assoc] at hA; have := AK (r.vV.length + k) A (by omega) hA
         rwa [mU, mI, if_neg (by omega), Nat.add_sub_cancel_left] at this
def uo (d : Nat) : Lb → Lb
 | .jc 0 => .box d
 | .jc (j + 1) => .sp d (j + 1)
 | l => l
theorem xN (d : Nat) : BA (uo d) := ⟨fun l h => by
 cases l with
 | jc j => cases j <;> simp [uo, Lb.real] at h ⊢
 | _ => simp [uo, Lb.real] at h ⊢⟩
theorem kY.PN {X : Lb → Prop} {w0 : World} {mu : Mu} {c : Cz} {st : St} {a : Act} {w : World} (h : kY X w0 mu c st a w) {d : Nat} {s0 : Sl} {os : List OV} {v : Value} (jb : nth st d = some s0)
   (hv : ∃ oK us ty, v = .pointer (some ⟨oK, 0, none⟩) ∧ c.own oK = some (.jc 0) ∧ w.heap[oK]? = some (.cells us ty (0, 0)) ∧ bT c w .jc 1 os us.toList) (hd : d < a.tmps.size) :
   ∃ c', kY X w0 mu c' (nA (fun s => { s with v := .one (.ptr d (s.bg + 1) 0), box := some (bp d (s.ag + 1) 1 os), bg := s.bg + 1, aP := none :: bw os, ag := s.ag + 1 }) st d) (a.put (some d) v) w ∧
     Fw c st w c' (nA (fun s => { s with v := .one (.ptr d (s.bg + 1) 0), box := some (bp d (s.ag + 1) 1 os), bg := s.bg + 1, aP := none :: bw os, ag := s.ag + 1 }) st d) w ∧ ∀ b l, l.real = true → c.own b = some l → c'.own b = some l := by
 obtain ⟨oK, us, ty, rfl, gP, NL, hL⟩ := hv; obtain ⟨lcs, g1, g2⟩ := bT.cells os 1 _ hL
 let c' := c.eT (uo d) (fun s => if s = d then oK else c.bx s) (fun s j => if s = d then lcs j else c.lc s j)
 let bh := nA (fun s => { s with v := .one (.ptr d (s.bg + 1) 0), box := some (bp d (s.ag + 1) 1 os), bg := s.bg + 1, aP := none :: bw os, ag := s.ag + 1 }) st d
 have hn : ∀ s, nth bh s = if s = d then some { s0 with v := .one (.ptr d (s0.bg + 1) 0), box := some (bp d (s0.ag + 1) 1 os), bg := s0.bg + 1, aP := none :: bw os, ag := s0.ag + 1 } else nth st s := by
   intro s; show nth (nA _ st d) s = _; rw [ec]
   by_cases e : s = d
   · subst e; rw [if_pos rfl, if_pos rfl, jb]; rfl
   · rw [if_neg e, if_neg e]
 have AM : ev bh d = s0.ag + 1 := by unfold ev; rw [hn]; simp
 have Hq : ev st d = s0.ag := by unfold ev; rw [jb]
 have Rn : jg bh d = s0.bg + 1 := by unfold jg; rw [hn]; simp
 have Sm : jg st d = s0.bg := by unfold jg; rw [jb]
 have ht := xN d; have hY : Fw c st w c' bh w := {
   stays := oM c w _ _ _
   refs := fun a' j' g' A' hg ft => by
     obtain ⟨sl, k1, k2, k3⟩ := bN ft; rw [hn] at k1
     by_cases e : a' = d
     · rw [if_pos e] at k1
       cases k1
       subst e; simp only at k2; omega
     · rw [if_neg e] at k1; exact ⟨A', pg k1 k2 k3, rfl, rfl, by show (if a' = d then _ else _) = _; rw [if_neg e], fun _ => ⟨rfl, fun _ _ _ _ => rfl⟩⟩
   CI := fun b' g' ow hg I5 => by
     obtain ⟨sl, k1, k2, k3⟩ := iF I5; rw [hn] at k1
     by_cases e : b' = d
     · rw [if_pos e] at k1
       cases k1
       subst e; simp only at k2; omega
     · rw [if_neg e] at k1; exact ⟨⟨ow, by unfold eR; rw [k1]; simp [k2, k3]⟩, by show (if b' = d then _ else _) = _; rw [if_neg e]⟩
   gA := fun a' => by
     by_cases e : a' = d
     · subst e; rw [AM, Hq]; omega
     · unfold ev; rw [hn, if_neg e]; exact Nat.le_refl _
   gB := fun a' => by
     by_cases e : a' = d
     · subst e; rw [Rn, Sm]; omega
     · unfold jg; rw [hn, if_neg e]; exact Nat.le_refl _
   gE := fun a' => by
     by_cases e : a' = d
     · subst e; unfold ou; rw [hn, if_pos rfl, jb]; exact Nat.le_refl _
     · unfold ou; rw [hn, if_neg e]; exact Nat.le_refl _ }
 have Hr : ∀ k A, bl bh d (1 + k) (s0.ag + 1) = some A → nth (bw os) k = some (some A) := by
   intro k A hA; obtain ⟨sl, k1, k2, k3⟩ := bN hA; rw [hn, if_pos rfl] at k1
   cases k1
   rw [show 1 + k = k + 1 by omega] at k3; exact k3
 have tn : ∀ t, fY c' bh w (da bh t) ((a.put (some d) (.pointer (some ⟨oK, 0, none⟩))).eval (.tmp t)) := by
   intro t; rw [eval_put]
   by_cases e : t = d
   · subst e; rw [if_pos ⟨rfl, hd⟩]; have : da bh t = .one (.ptr t (s0.bg + 1) 0) := by unfold da; rw [hn, if_pos rfl]
     rw [this]; refine ⟨rfl, by rw [Rn]; exact Nat.le_refl _, fun cs _ => ?_⟩; show _ = Value.pointer (some ⟨(if t = t then oK else c.bx t), 0, none⟩); rw [if_pos rfl]
   · rw [if_neg (by rintro ⟨e2, _⟩; exact e (Option.some.inj e2).symm)]; have : da bh t = da st t := by unfold da; rw [hn, if_neg e]
     rw [this]; exact hY.pG (h.gJ t)
 refine ⟨c', ⟨tn, fun s sl cs hX hs hb => ?_, fun s j sl A hX hs hA => ?_, fun b l hb => ?_, fun b hb h1 => h.free b hb (by unfold Cz.ok at *; simpa [c', Cz.eT] using h1), h.kept, h.old, by simpa [Act.put] using h.plain, fun p hp => hY.fw (h.fw p hp)⟩, hY, fun b l hl hb => ?_⟩
 case refine_4 =>
   show (c.own b).map (uo d) = _; rw [hb]; simp [(xN d).other l (.inr hl)]
 · rw [hn] at hs
   by_cases e : s = d
   · subst e; rw [if_pos rfl] at hs
     cases hs
     simp only [Option.some.injEq] at hb; subst hb; refine ⟨?_, us, ty, by show w.heap[if s = s then oK else c.bx s]? = _; rw [if_pos rfl]; exact NL, ?_⟩
     · show (c.own (if s = s then oK else c.bx s)).map (uo s) = some (.box s); rw [if_pos rfl, gP]; rfl
     · exact g2 c' bh s (s0.ag + 1) (fun b hb => Cz.pf.2 hb) (fun k _ => by show (if s = s then _ else _) = _; rw [if_pos rfl]) (fun k A _ hA => Hr k A hA) (by rw [AM]; exact Nat.le_refl _)
   · rw [if_neg e] at hs; exact (h.boxes s sl cs hX hs hb).eT ht hY (by show (if s = d then _ else _) = _; rw [if_neg e])
 · rw [hn] at hs
   by_cases e : s = d
   · subst e; rw [if_pos rfl] at hs
     cases hs
     cases j with
     | zero => simp [nth] at hA
     | succ j =>
       obtain ⟨v', oz⟩ := g1 j A hA; rw [show 1 + j = j + 1 by omega] at oz; exact oz.arr (by simp) (by simp [uo])
   · rw [if_neg e] at hs; exact (h.aP s j sl A hX hs hA).eT ht (by simp [e])
 · simp only [c', Cz.eT, Option.map_eq_some_iff] at hb; obtain ⟨k, hk, e⟩ := hb; obtain ⟨h1, h2⟩ := h.owned b k hk; refine ⟨h1, h2.imp (fun e2 => ?_) id⟩; subst e2; rw [← e]; rfl
theorem Gg {st : St} {d : Nat} {outs : List RV} (h : ∀ os, outs ≠ [.ptr os]) : vX st (some d) outs = match nth st d with
   | some s => some (nA (fun sl => { sl with v := (match kO d (s.ag + 1) 0 outs with | [v] => v | vs => .ot vs), aP := bw (outs.flatMap RV.vV), ag := s.ag + 1 }) st d)
   | none => none := by
 unfold vX; simp only
 cases nth st d with
 | none => rfl
 | some s =>
   cases outs with
   | nil => rfl
   | cons r l => cases l with
     | cons _ _ => cases r <;> rfl
     | nil => cases r with
       | one o => rfl
       | agg os => rfl
       | ptr os => exact absurd rfl (h os)
theorem kY.laid {X : Lb → Prop} {w0 : World} {mu : Mu} {c : Cz} {st : St} {a : Act} {w : World} (h : kY X w0 mu c st a w) {d : Option Nat} {outs : List RV} {v : Value} (hv : rJ c w outs v) {bh : St} (hl : vX st d outs = some bh) (hd : ∀ k, d = some k → k < a.tmps.size) :
   ∃ c', kY X w0 mu c' bh (a.put d v) w ∧ Fw c st w c' bh w ∧ ∀ b l, l.real = true → c.own b = some l → c'.own b = some l := by
 cases d with
 | none =>
   cases outs with
   | nil =>
     simp only [vX, Option.some.injEq] at hl; subst hl; exact ⟨c, h, Fw.refl c st w, fun _ _ _ h => h⟩
   | cons _ _ => simp [vX] at hl
 | some d =>
   by_cases hp : ∃ os, outs = [.ptr os]
   · obtain ⟨os, rfl⟩ := hp; unfold vX at hl; simp only at hl
     cases jb : nth st d with
     | none => simp [jb] at hl
     | some s0 =>
       simp only [jb, Option.some.injEq] at hl; subst hl; refine h.PN jb ?_ (hd d rfl); rcases hv with ⟨r, h1, h2⟩ | ⟨h1, _⟩
       · simp only [List.cons.injEq, and_true] at h1; subst h1; obtain ⟨v', l, e1, h3, _⟩ := h2; simp only [List.cons.injEq] at e1; rw [e1.1]; exact h3
       · exact absurd rfl h1
   rw [Gg (fun os e => hp ⟨os, e⟩)] at hl
   cases jb : nth st d with
   | none => simp [jb] at hl
   | some s0 =>
     simp only [jb, Option.some.injEq] at hl; obtain ⟨vs, hR, hVV⟩ : ∃ vs, l9 c w 0 outs vs ∧ ∀ (c2 : Cz) (il : St) (g : Nat), (kO d g 0 outs).length = vs.length → (∀ (k : Nat) (x : V) (u : Value), (kO d g 0 outs)[k]? = some x → vs[k]? = some u → zf c2 il w x u) →
         fY c2 il w (match kO d g 0 outs with | [v] => v | vs => .ot vs) v := by
       rcases hv with ⟨r, rfl, h2⟩ | ⟨h1, vs, rfl, h2⟩
       · refine ⟨[v], h2, fun c2 il g hlen wv => ?_⟩; exact Hl (wv 0 _ v rfl rfl)
       · refine ⟨vs.toList, h2, fun c2 il g hlen wv => ?_⟩; have Sn : fY c2 il w (.ot (kO d g 0 outs)) (.tuple vs) := ⟨vs, rfl, by simpa using hlen, fun i x y hx hy => wv i x y hx (by simpa using hy)⟩
         split
         · rename_i x hx; obtain ⟨_, _, _, b3, _⟩ := l9.vals outs 0 vs.toList h2; have := b3 d g; rw [hx] at this; exact absurd this.symm h1
         · exact Sn
     obtain ⟨lcs, g1, g2, g3, g4⟩ := l9.vals outs 0 vs hR
     let c' := c.eT (zC d) c.bx (fun s j => if s = d then lcs j else c.lc s j)
     let V0 := (match kO d (s0.ag + 1) 0 outs with | [v] => v | vs => .ot vs)
     have hn : ∀ s, nth bh s = if s = d then some { s0 with v := V0, aP := bw (outs.flatMap RV.vV), ag := s0.ag + 1 } else nth st s := by
       intro s; rw [← hl, ec]
       by_cases e : s = d
       · subst e; rw [if_pos rfl, if_pos rfl, jb]; rfl
       · rw [if_neg e, if_neg e]
     have AM : ev bh d = s0.ag + 1 := by unfold ev; rw [hn]; simp
     have Hq : ev st d = s0.ag := by unfold ev; rw [jb]
     have ht := xM d; have hY : Fw c st w c' bh w := {
       stays := oM c w _ _ _
       refs := fun a' j' g' A' hg ft => by
         obtain ⟨sl, k1, k2, k3⟩ := bN ft; rw [hn] at k1
         by_cases e : a' = d
         · rw [if_pos e] at k1
           cases k1
           subst e; simp only at k2; omega
         · rw [if_neg e] at k1; exact ⟨A', pg k1 k2 k3, rfl, rfl, by show (if a' = d then _ else _) = _; rw [if_neg e], fun _ => ⟨rfl, fun _ _ _ _ => rfl⟩⟩
       CI := fun b' g' ow hg I5 => by
         obtain ⟨sl, k1, k2, k3⟩ := iF I5; rw [hn] at k1
         by_cases e : b' = d
         · rw [if_pos e] at k1
           cases k1
           subst e; exact ⟨⟨ow, by unfold eR; rw [jb]; simp at k2 k3; simp [k2, k3]⟩, rfl⟩
         · rw [if_neg e] at k1; exact ⟨⟨ow, by unfold eR; rw [k1]; simp [k2, k3]⟩, rfl⟩
       gA := fun a' => by
         by_cases e : a' = d
         · subst e; rw [AM, Hq]; omega
         · unfold ev; rw [hn, if_neg e]; exact Nat.le_refl _
       gB := fun a' => by
         by_cases e : a' = d
         · subst e; unfold jg; rw [hn, if_pos rfl, jb]; exact Nat.le_refl _
         · unfold jg; rw [hn, if_neg e]; exact Nat.le_refl _
       gE := fun a' => by
         by_cases e : a' = d
         · subst e; unfold ou; rw [hn, if_pos rfl, jb]; exact Nat.le_refl _
         · unfold ou; rw [hn, if_neg e]; exact Nat.le_refl _ }
     have Hr : ∀ k A, bl bh d k (s0.ag + 1) = some A → nth (bw (outs.flatMap RV.vV)) k = some (some A) := by
       intro k A hA; obtain ⟨sl, k1, k2, k3⟩ := bN hA; rw [hn, if_pos rfl] at k1
       cases k1
       exact k3
     have tn : ∀ t, fY c' bh w (da bh t) ((a.put (some d) v).eval (.tmp t)) := by
       intro t; rw [eval_put]
       by_cases e : t = d
       · subst e; rw [if_pos ⟨rfl, hd t rfl⟩]; have : da bh t = V0 := by unfold da; rw [hn, if_pos rfl]
         rw [this]; refine hVV c' bh (s0.ag + 1) (by rw [g3, g2]) (g4 c' bh t (s0.ag + 1) (fun b hb => Cz.pf.2 hb) (fun k _ => ?_) (fun k A _ hA => Hr k A (by simpa using hA)) (by rw [AM]; exact Nat.le_refl _)); show (if t = t then _ else _) = _; rw [if_pos rfl]
       · rw [if_neg (by rintro ⟨e2, _⟩; exact e (Option.some.inj e2).symm)]; have : da bh t = da st t := by unfold da; rw [hn, if_neg e]
         rw [this]; exact hY.pG (h.gJ t)
     refine ⟨c', ⟨tn, fun s sl cs hX hs hb => ?_, fun s j sl A hX hs hA => ?_, fun b l hb => ?_, fun b hb h1 => h.free b hb (by unfold Cz.ok at *; simpa [c', Cz.eT] using h1), h.kept, h.old, by simpa [Act.put] using h.plain, fun p hp => hY.fw (h.fw p hp)⟩, hY, fun b l hl hb => ?_⟩
     case refine_4 =>
       show (c.own b).map (zC d) = _; rw [hb]; simp [(xM d).other l (.inr hl)]
     · rw [hn] at hs
       by_cases e : s = d
       · subst e; rw [if_pos rfl] at hs
         cases hs
         exact (h.boxes s s0 cs hX jb hb).eT ht hY rfl
       · rw [if_neg e] at hs; exact (h.boxes s sl cs hX hs hb).eT ht hY rfl
     · rw [hn] at hs
       by_cases e : s = d
       · subst e; rw [if_pos rfl] at hs
         cases hs
         obtain ⟨v', oz⟩ := g1 j A hA; exact oz.arr (by simp) (by simp [zC])
       · rw [if_neg e] at hs; exact (h.aP s j sl A hX hs hA).eT ht (by simp [e])
     · simp only [c', Cz.eT, Option.map_eq_some_iff] at hb; obtain ⟨k, hk, e⟩ := hb; obtain ⟨h1, h2⟩ := h.owned b k hk; refine ⟨h1, h2.imp (fun e2 => ?_) id⟩; subst e2; rw [← e]; rfl
end Go.TM
namespace Go.TM
open Go Go.RowKit
theorem Fg {st : St} {own : Bool} : (cs : List CV) → {os : List OV} → {u : List (Option Lb)} → {r : List (Nat × Nat)} → fC st own cs = some (os, u, r) → ∀ l ∈ cq u, l ∈ cs.filterMap fun x => match x with | .ref a j _ _ => some (Lb.sp a j) | _ => none
 | [], _, _, _, h => by
   simp only [fC, Option.some.injEq, Prod.mk.injEq] at h; obtain ⟨_, rfl, _⟩ := h; simp [cq]
 | x :: cs, os, u, r, h => by
   unfold fC at h
   cases hc : gu st own x with
   | none => simp [hc] at h
   | some p =>
     obtain ⟨o, u1, r1⟩ := p
     cases hq : fC st own cs with
     | none => simp [hc, hq] at h
     | some q =>
       obtain ⟨zw, us, rs⟩ := q; simp only [hc, hq, Option.some.injEq, Prod.mk.injEq] at h; obtain ⟨_, rfl, _⟩ := h; intro l hl; rw [hZ] at hl; rcases List.mem_cons.1 hl with hl | hl
       · refine List.mem_filterMap.2 ⟨x, List.mem_cons_self, ?_⟩
         cases x with
         | ref a j g w =>
           unfold gu at hc; simp only at hc
           cases hA : bl st a j g with
           | none => simp [hA] at hc
           | some A =>
             simp only [hA] at hc
             cases hm : A.md.is .ho with
             | true => simp [hm] at hc
             | false =>
             simp only [hm, cond_false] at hc
             cases hb : (own && A.own && (A.md.is .sh || w.isFull)) <;> simp only [hb, cond_true, cond_false, Option.some.injEq, Prod.mk.injEq] at hc <;> obtain ⟨_, rfl, _⟩ := hc
             · cases hl
             · exact hl.symm
         | qg a j g e i k q ys =>
           unfold gu at hc; simp only at hc
           cases hA : bl st a j g with
           | none => simp [hA] at hc
           | some A =>
             simp only [hA] at hc; obtain ⟨_, hc⟩ := aH hc; simp only [Option.some.injEq, Prod.mk.injEq] at hc; obtain ⟨_, rfl, _⟩ := hc
             cases hl
         | mH q y off => obtain ⟨_, rfl, _⟩ := wm hc; cases hl
         | sX q y off => obtain ⟨_, rfl, _⟩ := tk hc; cases hl
         | _ =>
           simp only [gu, Option.some.injEq, Prod.mk.injEq, reduceCtorEq] at hc
           all_goals (obtain ⟨_, rfl, _⟩ := hc; cases hl)
       · have := Fg cs hq l (hZ.2 hl); obtain ⟨y, h1, h2⟩ := List.mem_filterMap.1 this; exact List.mem_filterMap.2 ⟨y, List.mem_cons_of_mem _ h1, h2⟩
theorem Jj {st : St} {m : Pm} {v : V} {av : AV} {u q : List Lb} {r : List (Nat × Nat)} (h : eS st m v = some (av, u, q, r)) : ∀ l ∈ u, (l ∈ q ∧ ∃ s j, l = .sp s j) ∨ l ∈ AO m v := by
 have single : ∀ own cs, (match fC st own cs with | some (os, u, r) => some (AV.val false os, cq u, cq u, r) | none => none) = some (av, u, q, r) → ∀ l ∈ u, (l ∈ q ∧ ∃ s j, l = .sp s j) ∨ l ∈ AO m v := by
   intro own cs h
   cases hq : fC st own cs with
   | none => simp [hq] at h
   | some p =>
     obtain ⟨os, us, rs⟩ := p; simp only [hq, Option.some.injEq, Prod.mk.injEq] at h; obtain ⟨_, rfl, rfl, _⟩ := h; exact fun l hl => .inl ⟨hl, xg cs hq l hl⟩
 cases v with
 | ot _ => simp [eS] at h
 | agg cs =>
   have other : (match fC st m.oD cs with | some (os, u, r) => some (AV.val true os, cq u, cq u, r) | none => none) = some (av, u, q, r) → ∀ l ∈ u, (l ∈ q ∧ ∃ s j, l = .sp s j) ∨ l ∈ AO m (.agg cs) := by
     intro h
     cases hq : fC st m.oD cs with
     | none => simp [hq] at h
     | some p =>
       obtain ⟨os, us, rs⟩ := p; simp only [hq, Option.some.injEq, Prod.mk.injEq] at h; obtain ⟨_, rfl, rfl, _⟩ := h; exact fun l hl => .inl ⟨hl, xg cs hq l hl⟩
   unfold eS at h
   cases m with
   | shr => exact other h
   | own => exact other h
   | pick _ => exact other h
   | io => exact other h
   | bW =>
     simp only at h
     cases hq : fC st true cs with
     | none => simp [hq] at h
     | some p =>
       obtain ⟨os, us, rs⟩ := p; simp only [hq] at h; obtain ⟨_, h1⟩ := aH h; simp only [Option.some.injEq, Prod.mk.injEq] at h1; obtain ⟨_, rfl, _, _⟩ := h1; exact fun l hl => .inr (Fg cs hq l hl)
 | one cx =>
   cases cx with
   | ptr b g off =>
     unfold eS at h; simp only at h
     cases hb : eR st b g with
     | none => simp [hb] at h
     | some cs =>
       simp only [hb] at h
       cases hq : fC st true cs with
       | none => simp [hq] at h
       | some p =>
         obtain ⟨os, us, rs⟩ := p; simp only [hq] at h; obtain ⟨_, h1⟩ := aH h; simp only [Option.some.injEq, Prod.mk.injEq] at h1; obtain ⟨_, rfl, rfl, _⟩ := h1; intro l hl; rcases List.mem_cons.1 hl with rfl | hl
         · exact .inr (by simp [AO])
         · exact .inl ⟨hl, xg cs hq l hl⟩
   | ref s j g vw =>
     unfold eS at h
     cases m with
     | shr => exact single _ _ h
     | own => exact single _ _ h
     | pick _ => exact single _ _ h
     | bW => exact single _ _ h
     | io =>
       cases vw with
       | full =>
         cases hA : bl st s j g with
         | none => simp [hA] at h
         | some A =>
           simp only [hA] at h; obtain ⟨_, h1⟩ := aH h; simp only [Option.some.injEq, Prod.mk.injEq] at h1; obtain ⟨_, rfl, _, _⟩ := h1; exact fun l hl => .inr (by simpa [AO] using hl)
       | «from» _ => simp at h
       | sub _ _ => simp at h
   | _ =>
     unfold eS at h; simp only at h
     split at h
     · rename_i os us rs hq; simp only [Option.some.injEq, Prod.mk.injEq] at h; obtain ⟨_, rfl, rfl, _⟩ := h; exact fun l hl => .inl ⟨hl, xg _ hq l hl⟩
     · cases h
theorem Dd {st : St} : (ms : List (Pm × V)) → {eg : List AV} → {u q : List Lb} → {r : List (Nat × Nat)} → jf st ms = some (eg, u, q, r) → ∀ l ∈ u, (l ∈ q ∧ ∃ s j, l = .sp s j) ∨ ∃ m ∈ ms, l ∈ AO m.1 m.2
 | [], _, _, _, _, h => by
   simp only [jf, Option.some.injEq, Prod.mk.injEq] at h; obtain ⟨_, rfl, _⟩ := h; simp
 | (m, v) :: ms, eg, u, q, r, h => by
   unfold jf at h
   cases h1 : eS st m v with
   | none => simp [h1] at h
   | some p1 =>
     obtain ⟨av, u1, q1, r1⟩ := p1
     cases h2 : jf st ms with
     | none => simp [h1, h2] at h
     | some p2 =>
       obtain ⟨PL, u2, q2, r2⟩ := p2; simp only [h1, h2, Option.some.injEq, Prod.mk.injEq] at h; obtain ⟨rfl, rfl, rfl, rfl⟩ := h; intro l hl; rcases List.mem_append.1 hl with hl | hl
       · rcases Jj h1 l hl with ⟨h3, h4⟩ | h3
         · exact .inl ⟨List.mem_append_left _ h3, h4⟩
         · exact .inr ⟨(m, v), List.mem_cons_self, h3⟩
       · rcases Dd ms h2 l hl with ⟨h3, h4⟩ | ⟨m', h3, h4⟩
         · exact .inl ⟨List.mem_append_right _ h3, h4⟩
         · exact .inr ⟨m', List.mem_cons_of_mem _ h3, h4⟩
theorem BB {st : St} : (ms : List (Pm × V)) → {eg : List AV} → {u q : List Lb} → {r : List (Nat × Nat)} → jf st ms = some (eg, u, q, r) → ∀ (k : Nat) (m : Pm × V) (av : AV), ms[k]? = some m → eg[k]? = some av → NJ st m av
 | [], _, _, _, _, _ => by intro k m av hm; simp at hm
 | (m, v) :: ms, eg, u, q, r, h => by
   unfold jf at h
   cases h1 : eS st m v with
   | none => simp [h1] at h
   | some p1 =>
     obtain ⟨av, u1, q1, r1⟩ := p1
     cases h2 : jf st ms with
     | none => simp [h1, h2] at h
     | some p2 =>
       obtain ⟨PL, u2, q2, r2⟩ := p2; simp only [h1, h2, Option.some.injEq, Prod.mk.injEq] at h; obtain ⟨rfl, rfl, rfl, rfl⟩ := h; intro k m' KN hm Hy
       cases k with
       | zero => simp at hm Hy; subst hm Hy; exact ⟨u1, q1, r1, h1⟩
       | succ k => exact BB ms h2 k m' KN (by simpa using hm) (by simpa using Hy)
theorem LN (a b c : Pm) (l : List V) : (zc a b c l).map (·.2) = l := by
 rcases l with _ | ⟨x, _ | ⟨y, _ | ⟨z, l⟩⟩⟩ <;> simp [zc, Function.comp_def]
theorem Cz.x8 : (m : List (Nat × Nat)) → (c : Cz) → {b : Nat} → {l : Lb} → c.own b = some l → (∀ p ∈ m, l ≠ .sp p.1 p.2) → (c.drop m).own b = some l
 | [], _, _, _, h, _ => h
 | (s, j) :: m, c, b, l, h, hm => Cz.x8 m (c.drop1 s j) (Cz.rF h (hm (s, j) List.mem_cons_self)) (fun p hp => hm p (List.mem_cons_of_mem _ hp))
def ma (P : Program) (S : kK) : Prop :=
 ∀ f a b c Bo, S f = some (a, b, c, Bo) → FnOk P f Bo ∧ ∃ fn, P.funcs[f]? = some fn ∧ (fn.name == "runtime.NumGoroutine") = false ∧ fn.body.isNone = false
theorem Hz {P : Program} {w0 : World} {mu : Mu} {c : Cz} {st bh : St} {a : Act} {w : World} (h : Rel w0 mu c st a w) {o : Oper} {f : FuncId} {vals : Array Value} (pJ : (execOp a.eval o).run P w = .ok (.enter f vals) w)
   {Bo : vW} (LO : FnOk P f Bo) {ms : List (Pm × V)}
   (hlen : ms.length = vals.toList.length) (wv : ∀ (k : Nat) (m : Pm × V) (x : Value), ms[k]? = some m → vals.toList[k]? = some x → fY c st w m.2 x)
   {fin : St → N} (hv : (G2 st o.dst Bo ms fin).val = some bh) (hd : ∀ k, o.dst = some k → k < a.tmps.size) {kp : Bool} (PK : kp = true → I1 st ms = true)
   (LP : ∀ (c5 : Cz) (il : St) (a2 : Act) (w' : World), Rel w0 mu c5 il a2 w' → Fw c st w c5 il w' →
     (∀ eg u q r, jf st ms = some (eg, u, q, r) → ∀ b l, l.real = true → l ∉ u → (∀ p ∈ r, l ≠ .sp p.1 p.2) → c.own b = some l → w'.heap[b]? = w.heap[b]? ∧ c5.own b = some l) →
     (fin il).val = some bh → ∃ c6, Rel w0 mu c6 bh a2 w') : xK P w0 mu bh o a w kp := by
   unfold G2 at hv; unfold I1 at PK
   cases he : jf st ms with
   | none => simp [he, N.val] at hv
   | some p =>
     obtain ⟨eg, u, q, r⟩ := p; simp only [he] at hv PK; obtain ⟨hc, hv⟩ := fl hv; rw [Bool.and_eq_true] at hc
     cases hs : Bo eg with
     | none => simp [hs, N.val] at hv
     | some p =>
       simp only [hs] at hv
       cases hox : p.o with
       | none => rw [hox] at hv; cases hv
       | some x =>
       rw [hox] at hv; have Jk := hv; clear hv; unfold N.val at Jk; simp only at Jk; generalize CU : p.res x = res at Jk
       cases V9 : uc (pb (zd (bif res.plain then st else freeze st r)) q) ms res.exts with
       | none => simp [V9, N.val] at Jk
       | some AD =>
         simp only [V9] at Jk
         cases hly : vX AD o.dst res.outs with
         | none => simp [hly, N.val] at Jk
         | some il =>
           simp only [hly] at Jk; have Jk : (fin il).val = some bh := Jk; obtain ⟨BC, hqu, tb, NM, Xl, LQ, hold⟩ := Fe h ms 0 _ hlen wv he; have Lt := pe u BC hc.1; have EH : ∀ p ∈ r, Lb.sp p.1 p.2 ∉ u := by
             intro p hp hm; have h1 := List.all_eq_true.1 hc.2 p hp; have h2 := List.all_eq_true.1 h1 _ hm; rw [(Lb.zx rfl).2 rfl] at h2
             cases h2
           let lc : Nat → Nat → Loc := fun k => match ms[k]? with | some m => Bz c m.2 | none => fun _ => .nil
           have sy := Classical.propDecidable
           let ρ : Lb → Option Lb := fun l => match look tb l with | some y => some y | none => if (∃ p ∈ r, l = .sp p.1 p.2) then none else some .out
           have zD : ∀ {l y}, look tb l = some y → l ∈ u ∧ y.kL = true := by
             intro l y hl; have := xf tb hl; exact ⟨by rw [← NM]; exact List.mem_map.2 ⟨_, this, rfl⟩, Xl _ this⟩
           have hρr : ∀ p ∈ r, ρ (.sp p.1 p.2) = none := by
             intro p hp; show (match look tb (.sp p.1 p.2) with | some y => some y | none => if (∃ p' ∈ r, Lb.sp p.1 p.2 = .sp p'.1 p'.2) then none else some .out) = none
             cases hl : look tb (.sp p.1 p.2) with
             | some y => exact absurd (zD hl).1 (EH p hp)
             | none => simp only; rw [if_pos ⟨p, hp, rfl⟩]
           have hρt : ∀ p ∈ tb, ρ p.1 = some p.2 := by
             intro p hp; have := zy tb (by rw [NM]; exact Lt) hp; show (match look tb p.1 with | some y => some y | none => _) = _; rw [this]
           have hρh : ∀ {l y}, ρ l = some y → y = .out ∨ (y.kL = true ∧ l ∈ u) := by
             intro l y hl; have hl : (match look tb l with | some y => some y | none => if (∃ p ∈ r, l = .sp p.1 p.2) then none else some .out) = some y := hl
             cases hk : look tb l with
             | some z =>
               rw [hk] at hl
               cases hl
               exact .inr ⟨(zD hk).2, (zD hk).1⟩
             | none =>
               rw [hk] at hl; simp only at hl
               split at hl
               · cases hl
               · cases hl; exact .inl rfl
           have hρn : ∀ {l}, ρ l = none → ∃ p ∈ r, l = .sp p.1 p.2 := by
             intro l hl; have hl : (match look tb l with | some y => some y | none => if (∃ p ∈ r, l = .sp p.1 p.2) then none else some .out) = none := hl
             cases hk : look tb l with
             | some z => rw [hk] at hl; cases hl
             | none =>
               rw [hk] at hl; simp only at hl
               split at hl
               · assumption
               · cases hl
           let μ : Mu := { m := fun b => ∃ l, (c.map ρ).own b = some l ∧ l.kL = true, ok := fun b => (c.map ρ).own b = none, an := [] }
           have hH : Handed (c.map ρ) w μ := {
             m := fun b => Iff.rfl
             ok := fun b => Iff.rfl
             lt := fun b l hb => by
               obtain ⟨k, hk, _⟩ := Cz.map_some hb; exact (h.owned b k hk).1
             lb := fun b l hb => by
               obtain ⟨k, hk, e⟩ := Cz.map_some hb; exact (hρh e).imp id (·.1) }
           have hA := hold ρ lc (fun k m hm => by simp only [Nat.zero_add, lc, hm]) hρt hρr; have mw := LO (c.map ρ) w μ lc eg vals p x hH hA hs hox; rw [CU] at mw; intro Q; unfold Oper.wp; rw [pJ, Oper.upon_enter]; refine mw.mono fun e w' De => ?_
           obtain ⟨v, rfl, c1, AQ, hV, hX⟩ := De; obtain ⟨c2, s2, Pe, hR2, hF2, hm2, acF, acG⟩ : ∃ (c2 : Cz) (s2 : St), (bif res.plain then st else freeze st r) = s2 ∧ Rel w0 mu c2 s2 a w ∧ Fw c st w c2 s2 w ∧ (∀ b, μ.m b → ∃ l, c2.own b = some l ∧ l ∈ u) ∧ (res.plain = true ∨ ∀ b, μ.ok b → c2.own b = none) ∧
               (∀ b l, (∀ p ∈ r, l ≠ .sp p.1 p.2) → c.own b = some l → c2.own b = some l) := by
             have hm : ∀ b, μ.m b → ∃ l, c.own b = some l ∧ l ∈ u := by
               rintro b ⟨l, hl, hh⟩
               obtain ⟨k, hk, e⟩ := Cz.map_some hl; rcases hρh e with e2 | e2
               · subst e2; cases hh
               · exact ⟨k, hk, e2.2⟩
             cases hp : res.plain with
             | true => exact ⟨c, st, rfl, h, Fw.refl c st w, hm, .inl rfl, fun _ _ _ h => h⟩
             | false =>
               refine ⟨c.drop r, freeze st r, rfl, Rel.freeze r h, Fw.freeze w r c st, fun b hb => ?_, .inr fun b hb => ?_, fun b l hl hb => Cz.x8 r c hb hl⟩
               · obtain ⟨l, h1, h2⟩ := hm b hb; exact ⟨l, Cz.x8 r c h1 (fun p hp e => EH p hp (e ▸ h2)), h2⟩
               · have hb : (c.own b).bind ρ = none := hb
                 cases hk : c.own b with
                 | none => exact Cz.zh r c b hk
                 | some l =>
                   rw [hk] at hb; obtain ⟨p, hp, e⟩ := hρn hb; subst e; exact Cz.Co r c b hk hp
           rw [Pe] at V9; obtain ⟨g1, g2, gfr, g3, g4⟩ := hR2.Xi AQ (X := fun l => l ∈ u) hm2 (fun l hl e => by subst e; cases BC _ hl); have Jl : (∀ b, c1.ok b → (c2.merge c1 w.heap.size μ.m).ok b) ∨ res.plain = true := by
             rcases acF with h1 | h1
             · exact .inr h1
             · exact .inl (g4 h1)
           have NN : res.plain = true → res.outs.all (fun o => o.vV.all OV.plain) = true ∧ res.exts.all XV.plain = true := by
             intro hp; unfold Res.plain at hp
             rwa [Bool.and_eq_true] at hp
           have hV' : rJ (c2.merge c1 w.heap.size μ.m) w' res.outs v := hV.pass (fun b j => g3 b (.jc j) rfl) (Jl.imp id fun hp => (NN hp).1); have LI : iR (c2.merge c1 w.heap.size μ.m) w' lc 0 eg vals.toList res.exts := iR.pass eg 0 (fun b k _ => g3 b (.tg k) rfl) (fun b k j _ => g3 b (.cA k j) rfl) _ _ (Jl.imp id fun hp => (NN hp).2) hX; obtain ⟨c3, k1, k2, k3⟩ := x7 q g1; have Xm : ∀ b, (c2.merge c1 w.heap.size μ.m).ok b → c3.ok b := fun b hb => by unfold Cz.ok at *; rw [k3]; exact hb
           have hV3 : rJ c3 w' res.outs v := hV'.pass (fun b j hb => by rw [k3]; exact hb) (.inl Xm); have hX3 : iR c3 w' lc 0 eg vals.toList res.exts := iR.pass eg 0 (fun b k _ hb => by rw [k3]; exact hb) (fun b k j _ hb => by rw [k3]; exact hb) _ _ (.inl Xm) LI; obtain ⟨c4, l1, l2, l3⟩ := Dc ms 0 eg _ _ k1 ((hF2.trans g2).trans k2) wv (BB ms he) LQ.symm hlen (fun k m hm => by simp only [Nat.zero_add, lc, hm]) hX3 V9; have hV4 : rJ c4 w' res.outs v := hV3.pass (fun b j => l3.cA b (.jc j) (.inl ⟨j, rfl⟩)) (.inl l3.ok); obtain ⟨c5, n1, n2, n3⟩ := l1.laid hV4 hly hd; have Xn : Rel w0 mu c5 il (a.put o.dst v) w' := by
             refine (n1.mono (X' := fun _ => False) (fun l hl => ?_)).rel; obtain ⟨⟨Ro, Xo⟩, hl3⟩ := hl; rcases Dd ms he l Ro with ⟨h1, s, j, e⟩ | ⟨m, h1, h2⟩
             · subst e; exact Xo s j h1 rfl
             · exact hl3 m h1 h2
           obtain ⟨c6, hc6⟩ := LP c5 il _ w' Xn (l2.trans n2) (fun PL u' q' r' RX b l Ro Xo hl3 hb => by
             rw [he] at RX; simp only [Option.some.injEq, Prod.mk.injEq] at RX; obtain ⟨rfl, rfl, rfl, rfl⟩ := RX; have LM := acG b l hl3 hb; obtain ⟨f1, f2⟩ := gfr b l LM Xo; refine ⟨f1, n3 b l Ro (l3.cA b l (.inr Ro) ?_)⟩; rw [k3, f2]; exact LM) Jk
           refine ⟨⟨c6, hc6, rH _ _ _⟩, fun acI => ⟨AQ.kept.2.2.2, fun k hk => AQ.old k hk (fun hmu => ?_)⟩⟩; have hu0 : u = [] := by simpa using PK acI
           obtain ⟨_, _, CW⟩ := hm2 k hmu; rw [hu0] at CW
           cases CW
end Go.TM
