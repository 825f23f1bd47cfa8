/- What a member does that holds a token. -/
import Derived.Test.YtiljcjnnhkidbaaDPHoldL
namespace Go.TM
open Go
theorem sE.id {m : ew} (h : sE m) : 1 ≤ m.1 ∧ m.1 ≤ 5 := by
 obtain ⟨k, hk, e⟩ := List.mem_iff_getElem.1 h.mem; have := (h.ring.2.2 k hk hk).1; rw [e] at this; exact this
theorem HD {list : aM} {xs : dy} {ms : List Int} {c c2 : Int} (hx : sD c xs xs.length) (hc : c ≤ c2) (hm : ∀ s ∈ ms, 1 ≤ s ∧ s ≤ c2) : sD c2 (aN (iE list xs ms)) (aN (iE list xs ms)).length := by
 have hp : (iE list xs ms).Pairwise (· < ·) := List.Pairwise.sublist (List.take_sublist _ _) (List.Pairwise.filter _ (zl 60)); have wU : ∀ s ∈ iE list xs ms, 1 ≤ s ∧ s ≤ c2 := by
   intro s hs; have h1 := List.mem_of_mem_take hs; have h2 := (List.mem_filter.1 h1).2; unfold fv at h2; rw [Bool.or_eq_true, Bool.and_eq_true, decide_eq_true_eq, decide_eq_true_eq] at h2; rcases h2 with ⟨_, h2⟩ | h2
   · unfold aZ at h2; obtain ⟨r, hr, rfl⟩ := List.mem_map.1 h2; obtain ⟨k, hk, rfl⟩ := List.mem_iff_getElem.1 hr; have := hx k hk hk; exact ⟨this.1, by omega⟩
   · exact hm s h2
 intro k hk _; have yC : k < (iE list xs ms).length := by rwa [bJ] at hk
 have e : ∀ j (hj : j < (aN (iE list xs ms)).length) (hj' : j < (iE list xs ms).length), (aN (iE list xs ms))[j].1 = (iE list xs ms)[j] := by intro j hj hj'; simp [aN]
 rw [e k hk yC]; refine ⟨(wU _ (List.getElem_mem yC)).1, (wU _ (List.getElem_mem yC)).2, fun h0 => ?_⟩; rw [e (k - 1) (by omega) (by omega)]; exact List.pairwise_iff_getElem.1 hp (k - 1) k (by omega) yC (by omega)
theorem sR.drop {l : dy} (h : sR l l.length) (k : Nat) : sR (l.drop k) (l.drop k).length := by
 intro j hj _; rw [List.getElem_drop]; rw [List.length_drop] at hj; exact h (k + j) (by omega) (by omega)
theorem gM.drop {l : List (ByteArray × Unit)} (h : gM l l.length) (k : Nat) : gM (l.drop k) (l.drop k).length := by
 intro j hj _; rw [List.getElem_drop]; rw [List.length_drop] at hj; exact h (k + j) (by omega) (by omega)
structure W2 (m : ew) (t : kt) (n : ew) (said : aM) (k : Nat) (nx : kt) : Prop where
 FE : k ≤ 3 ∧ k ≤ m.2.2.2.2.2.1.length ∧ t.2.2.1 + ((k : Nat) : Int) ≤ 60
 said : said = q7 t m.2.2.2.1 ++ cU t.2.2.1 m.1 m.2.2.2.2.1 m.2.2.2.2.2.1 k
 id : n.1 = m.1 ∧ n.2.1 = m.2.1 ∧ n.2.2.1 = m.2.2.1
 items : n.2.2.2.1 = bf m.2.2.2.1 (cU t.2.2.1 m.1 m.2.2.2.2.1 m.2.2.2.2.2.1 k)
 words : n.2.2.2.2.1 = m.2.2.2.2.1.drop k ∧ n.2.2.2.2.2.1 = m.2.2.2.2.2.1.drop k
 round : n.2.2.2.2.2.2.1 = t.2.1 ∧ n.2.2.2.2.2.2.2.1 = t.2.2.2.1 ∧ m.2.2.2.2.2.2.2.2.1 ≤ n.2.2.2.2.2.2.2.2.1 ∧ n.2.2.2.2.2.2.2.2.2.1 = m.2.2.2.2.2.2.2.2.2.1
 last : (n.2.2.2.2.2.2.2.2.2.2.1, n.2.2.2.2.2.2.2.2.2.2.2.1, n.2.2.2.2.2.2.2.2.2.2.2.2.1, n.2.2.2.2.2.2.2.2.2.2.2.2.2.1, n.2.2.2.2.2.2.2.2.2.2.2.2.2.2.1, n.2.2.2.2.2.2.2.2.2.2.2.2.2.2.2.1, ()) = nx
 nq : sE n
 tq : Bp nx
 next : nx.1 = t.1 ∧ nx.2.1 = t.2.1 + 1 ∧ nx.2.2.1 = t.2.2.1 + ((k : Nat) : Int)
 aba : k = min 3 m.2.2.2.2.2.1.length ∨ t.2.2.1 + ((k : Nat) : Int) = 60
 marks : nx.2.2.2.1 = zj (t.2.2.1 + ((k : Nat) : Int)) (if t.2.2.2.1 = t.2.2.1 ∧ t.2.2.2.2.1 = 0 then t.2.2.1 + ((k : Nat) : Int) else t.2.2.2.1) t.2.2.2.2.1 m.1 ((cF n.2.2.2.1 : Nat) : Int) ∧ nx.2.2.2.2.1 = zk (t.2.2.1 + ((k : Nat) : Int)) (if t.2.2.2.1 = t.2.2.1 ∧ t.2.2.2.2.1 = 0 then t.2.2.1 + ((k : Nat) : Int) else t.2.2.2.1) t.2.2.2.2.1 m.1 ((cF n.2.2.2.1 : Nat) : Int)
 line : n.2.2.2.2.2.2.2.2.1 = m.2.2.2.2.2.2.2.2.1 ∨ (n.2.2.2.2.2.2.2.2.1 ≤ m.2.2.2.2.2.2.2.1 ∧ n.2.2.2.2.2.2.2.2.1 ≤ t.2.2.2.1 ∧ n.2.2.2.2.2.2.2.2.1 ≤ ((cF n.2.2.2.1 : Nat) : Int))
 W3 : ∀ s ∈ aZ nx.2.2.2.2.2.1, hasB n.2.2.2.1 s = false
theorem On (m : ew) (t : kt) (hm : sE m) (ht : Bp t) (hc : t.1 = m.2.1) (hr1 : m.2.2.2.2.2.2.1 < t.2.1) (hr2 : t.2.1 < 1000000000) :
   ∃ (n : ew) (said : aM) (k : Nat) (nx : kt), W2 m t n said k nx ∧ kH m.1 m.2.1 m.2.2.1 m.2.2.2.1 m.2.2.2.2.1 m.2.2.2.2.2.1 m.2.2.2.2.2.2.1 m.2.2.2.2.2.2.2.1 m.2.2.2.2.2.2.2.2.1 m.2.2.2.2.2.2.2.2.2.1 m.2.2.2.2.2.2.2.2.2.2.1 m.2.2.2.2.2.2.2.2.2.2.2.1 m.2.2.2.2.2.2.2.2.2.2.2.2.1 m.2.2.2.2.2.2.2.2.2.2.2.2.2.1 m.2.2.2.2.2.2.2.2.2.2.2.2.2.2.1 m.2.2.2.2.2.2.2.2.2.2.2.2.2.2.2.1 t.1 t.2.1 t.2.2.1 t.2.2.2.1 t.2.2.2.2.1 t.2.2.2.2.2.1 = some (n.1, n.2.1, n.2.2.1, n.2.2.2.1, n.2.2.2.2.1, n.2.2.2.2.2.1, n.2.2.2.2.2.2.1, n.2.2.2.2.2.2.2.1, n.2.2.2.2.2.2.2.2.1, n.2.2.2.2.2.2.2.2.2.1, n.2.2.2.2.2.2.2.2.2.2.1, n.2.2.2.2.2.2.2.2.2.2.2.1, n.2.2.2.2.2.2.2.2.2.2.2.2.1, n.2.2.2.2.2.2.2.2.2.2.2.2.2.1, n.2.2.2.2.2.2.2.2.2.2.2.2.2.2.1, n.2.2.2.2.2.2.2.2.2.2.2.2.2.2.2.1, said, ((k : Nat) : Int), nx.1, nx.2.1, nx.2.2.1, nx.2.2.2.1, nx.2.2.2.2.1, nx.2.2.2.2.2.1, true, ()) ∧ iK m.1 m.2.1 m.2.2.1 m.2.2.2.1 m.2.2.2.2.1 m.2.2.2.2.2.1 m.2.2.2.2.2.2.1 m.2.2.2.2.2.2.2.1 m.2.2.2.2.2.2.2.2.1 m.2.2.2.2.2.2.2.2.2.1 m.2.2.2.2.2.2.2.2.2.2.1 m.2.2.2.2.2.2.2.2.2.2.2.1 m.2.2.2.2.2.2.2.2.2.2.2.2.1 m.2.2.2.2.2.2.2.2.2.2.2.2.2.1 m.2.2.2.2.2.2.2.2.2.2.2.2.2.2.1 m.2.2.2.2.2.2.2.2.2.2.2.2.2.2.2.1 t.1 t.2.1 t.2.2.1 t.2.2.2.1 t.2.2.2.2.1 t.2.2.2.2.2.1 = some (n.1, n.2.1, n.2.2.1, n.2.2.2.1, n.2.2.2.2.1, n.2.2.2.2.2.1, n.2.2.2.2.2.2.1, n.2.2.2.2.2.2.2.1, n.2.2.2.2.2.2.2.2.1, n.2.2.2.2.2.2.2.2.2.1, n.2.2.2.2.2.2.2.2.2.2.1, n.2.2.2.2.2.2.2.2.2.2.2.1, n.2.2.2.2.2.2.2.2.2.2.2.2.1, n.2.2.2.2.2.2.2.2.2.2.2.2.2.1, n.2.2.2.2.2.2.2.2.2.2.2.2.2.2.1, n.2.2.2.2.2.2.2.2.2.2.2.2.2.2.2.1, said, nx.1, nx.2.1, nx.2.2.1, nx.2.2.2.1, nx.2.2.2.2.1, nx.2.2.2.2.2.1, true, ()) := by
 have yS := hm.id; have hW := hm.small; have hw := hW; unfold zw at hw; have hwl : t.2.2.2.2.2.1.length ≤ 20 := ht.2.2.2.2.2.1; obtain ⟨k, t3, hN, q1, q2, q3, q4, q5, q6⟩ := Hy t.1 t.2.1 t.2.2.1 t.2.2.2.1 t.2.2.2.2.1 t.2.2.2.2.2.1 m.1 m.2.2.2.2.1 m.2.2.2.2.2.1 (by omega) (by omega) yS ht; obtain ⟨o0, o1, o2, o3, o4, o5, o6, s1, s2, _⟩ := DL t.1 t.2.1 t.2.2.1 t.2.2.2.1 t.2.2.2.2.1 t.2.2.2.2.2.1 m.1 m.2.2.2.2.1 m.2.2.2.2.2.1 (by omega); rw [hN] at s2; injection s2 with s2; simp only [Prod.mk.injEq] at s2; obtain ⟨rfl, rfl, rfl, rfl, rfl, rfl, rfl, _⟩ := s2; have hF : ∀ f ∈ cU t.2.2.1 m.1 m.2.2.2.2.1 m.2.2.2.2.2.1 k, jX f := zn ⟨ht.2.2.1.1, q3⟩ yS q2 hm.short; have hFl := og t.2.2.1 m.1 m.2.2.2.2.1 m.2.2.2.2.2.1 k; generalize hFF : cU t.2.2.1 m.1 m.2.2.2.2.1 m.2.2.2.2.2.1 k = F at *; subst hFl; have hi := oh F hm.items hF; have Uj := cA _ hi; have agm := cA _ hm.items; obtain ⟨a1, a2, _⟩ := uj (bf m.2.2.2.1 F) (by omega); have acQ : cF m.2.2.2.1 ≤ cF (bf m.2.2.2.1 F) := FA (by omega) (by omega) fun r hr => ⟨r, zm F hr, rfl⟩
 obtain ⟨z0, z1, z2, z3, z4, z5, z6⟩ := ht; have MU : sD (t.2.2.1 + ((List.length F : Nat) : Int)) t.2.2.2.2.2.1 t.2.2.2.2.2.1.length := fun j hj Lg => by
   have := z6 j hj Lg; exact ⟨this.1, by omega, this.2.2⟩
 have ht3 : 0 ≤ t3 ∧ t3 ≤ t.2.2.1 + ((List.length F : Nat) : Int) := by
   have z3a := z3.1; have z3b := z3.2; have z2a := z2.1; rcases q4 with e | e <;> rw [e] <;> omega
 have htq : Bp (t.1, t.2.1, t.2.2.1 + ((List.length F : Nat) : Int), t3, t.2.2.2.2.1, t.2.2.2.2.2.1, ()) := ⟨z0, z1, ⟨by show 0 ≤ t.2.2.1 + _; omega, q3⟩, ht3, z4, z5, MU⟩; obtain ⟨u1, _, u3⟩ := Bq (t.1, t.2.1, t.2.2.1 + ((List.length F : Nat) : Int), t3, t.2.2.2.2.1, t.2.2.2.2.2.1, ()) (by show t.2.2.2.2.2.1.length ≤ _; omega); rw [u3.2 htq] at u1; obtain ⟨Sm, Oo, m1, m2, _, m4, m5⟩ := MQ t.1 t.2.1 (t.2.2.1 + ((List.length F : Nat) : Int)) t3 t.2.2.2.2.1 t.2.2.2.2.2.1 m.1 ((cF (bf m.2.2.2.1 F) : Nat) : Int) (by omega) u1; have m4 := m4 rfl yS.1 yS.2 (by omega) htq.2.2.2.1.1 htq.2.2.2.1.2; have m5 := m5 rfl yS.1 yS.2 (by omega); obtain ⟨ms, l1, l2, l3, l4⟩ := Fx (bf m.2.2.2.1 F) (t.2.2.1 + ((List.length F : Nat) : Int)) (by omega); have ls := HA t.1 t.2.1 (t.2.2.1 + ((List.length F : Nat) : Int)) Sm Oo t.2.2.2.2.2.1 (bf m.2.2.2.1 F) ms (by omega) (by omega) l1 l3; have li := HB t.1 t.2.1 (t.2.2.1 + ((List.length F : Nat) : Int)) Sm Oo t.2.2.2.2.2.1 (bf m.2.2.2.1 F) ms (by omega) (by omega) l2 l3 (fun s hs => ⟨(l4 s hs).1, (l4 s hs).2.1.1, (l4 s hs).2.2⟩); have hlw : sD (t.2.2.1 + ((List.length F : Nat) : Int)) (aN (iE (bf m.2.2.2.1 F) t.2.2.2.2.2.1 ms)) (aN (iE (bf m.2.2.2.1 F) t.2.2.2.2.2.1 ms)).length := HD z6 (by omega) fun s hs => ⟨(l4 s hs).1, (l4 s hs).2.1.2⟩
 have hll : (aN (iE (bf m.2.2.2.1 F) t.2.2.2.2.2.1 ms)).length ≤ 20 := by
   rw [bJ]; unfold iE; rw [List.length_take]; omega
 have hlk : ∀ s ∈ aZ (aN (iE (bf m.2.2.2.1 F) t.2.2.2.2.2.1 ms)), hasB (bf m.2.2.2.1 F) s = false := by
   rw [mj]; intro s hs; have h2 := (List.mem_filter.1 (List.mem_of_mem_take hs)).2; unfold fv at h2; rw [Bool.or_eq_true, Bool.and_eq_true, decide_eq_true_eq, decide_eq_true_eq] at h2; rcases h2 with ⟨h2, _⟩ | h2
   · simpa using h2
   · exact (l4 s h2).2.2
 generalize aN (iE (bf m.2.2.2.1 F) t.2.2.2.2.2.1 ms) = W at *; have Oq : IntKind.i64.wrap (t.2.1 + (1 : Int)) = t.2.1 + 1 := eA (by omega) (by omega); obtain ⟨c1, c2⟩ := ig t.1 (t.2.1 + 1) (t.2.2.1 + ((List.length F : Nat) : Int)) Sm Oo W (by omega); have Hk : zw m ≤ 1048576 := by omega
 obtain ⟨kb1, kb2, kb3⟩ := sF m Hk; rw [kb3.2 hm] at kb1 kb2; obtain ⟨kt1, kt2, kt3⟩ := Bq t (by omega); rw [kt3.2 ⟨z0, z1, z2, z3, z4, z5, z6⟩] at kt1 kt2; obtain ⟨p1, p2⟩ := kI m.1 m.2.1 m.2.2.1 m.2.2.2.1 m.2.2.2.2.1 m.2.2.2.2.2.1 m.2.2.2.2.2.2.1 m.2.2.2.2.2.2.2.1 m.2.2.2.2.2.2.2.2.1 m.2.2.2.2.2.2.2.2.2.1 m.2.2.2.2.2.2.2.2.2.2.1 m.2.2.2.2.2.2.2.2.2.2.2.1 m.2.2.2.2.2.2.2.2.2.2.2.2.1 m.2.2.2.2.2.2.2.2.2.2.2.2.2.1 m.2.2.2.2.2.2.2.2.2.2.2.2.2.2.1 m.2.2.2.2.2.2.2.2.2.2.2.2.2.2.2.1 Hk; obtain ⟨g1, g2⟩ := MT t m.2.2.2.1 (by omega) (by omega); have hgl := FD t m.2.2.2.1; have htx := hm.texts; generalize W4 : (if (if ((cF (bf m.2.2.2.1 F) : Nat) : Int) < (if t.2.2.2.1 < m.2.2.2.2.2.2.2.1 then t.2.2.2.1 else m.2.2.2.2.2.2.2.1) then ((cF (bf m.2.2.2.1 F) : Nat) : Int) else (if t.2.2.2.1 < m.2.2.2.2.2.2.2.1 then t.2.2.2.1 else m.2.2.2.2.2.2.2.1)) > m.2.2.2.2.2.2.2.2.1 then (if ((cF (bf m.2.2.2.1 F) : Nat) : Int) < (if t.2.2.2.1 < m.2.2.2.2.2.2.2.1 then t.2.2.2.1 else m.2.2.2.2.2.2.2.1) then ((cF (bf m.2.2.2.1 F) : Nat) : Int) else (if t.2.2.2.1 < m.2.2.2.2.2.2.2.1 then t.2.2.2.1 else m.2.2.2.2.2.2.2.1)) else m.2.2.2.2.2.2.2.2.1) = line; have hle : m.2.2.2.2.2.2.2.2.1 ≤ line := by
   rw [← W4]
   split <;> omega
 have hnx : Bp (t.1, t.2.1 + 1, t.2.2.1 + ((List.length F : Nat) : Int), Sm, Oo, W, ()) := ⟨z0, ⟨by show 1 ≤ t.2.1 + 1; omega, by show t.2.1 + 1 ≤ 1000000000; omega⟩, ⟨by show 0 ≤ t.2.2.1 + _; have := z2.1; omega, q3⟩, ⟨m4.1, m4.2.1⟩, by
   have z4a := z4.1; have z4b := z4.2; show 0 ≤ Oo ∧ Oo ≤ 5; rcases m4.2.2.2.2 with e | e | ⟨e, _⟩ <;> rw [e] <;> omega, hll, hlw⟩
 refine ⟨(m.1, m.2.1, m.2.2.1, bf m.2.2.2.1 F, m.2.2.2.2.1.drop F.length, m.2.2.2.2.2.1.drop F.length, t.2.1, t.2.2.2.1, line, m.2.2.2.2.2.2.2.2.2.1, t.1, t.2.1 + 1, t.2.2.1 + ((List.length F : Nat) : Int), Sm, Oo, W, ()), q7 t m.2.2.2.1 ++ F, F.length, (t.1, t.2.1 + 1, t.2.2.1 + ((List.length F : Nat) : Int), Sm, Oo, W, ()), ?_, ?_, ?_⟩
 · have hn : sE (m.1, m.2.1, m.2.2.1, bf m.2.2.2.1 F, m.2.2.2.2.1.drop F.length, m.2.2.2.2.2.1.drop F.length, t.2.1, t.2.2.2.1, line, m.2.2.2.2.2.2.2.2.2.1, t.1, t.2.1 + 1, t.2.2.1 + ((List.length F : Nat) : Int), Sm, Oo, W, ()) := {
     ring := hm.ring
     mem := hm.mem
     items := hi
     texts := ⟨by show (m.2.2.2.2.2.1.drop F.length).length ≤ 20; rw [List.length_drop]; omega, by show (m.2.2.2.2.1.drop F.length).length = (m.2.2.2.2.2.1.drop F.length).length; rw [List.length_drop, List.length_drop]; omega⟩
     Oj := hm.Oj.drop _
     short := hm.short.drop _
     round := ⟨by show 0 ≤ t.2.1; omega, by show t.2.1 ≤ 1000000000; omega⟩
     seen := ⟨z3.1, by show t.2.2.2.1 ≤ 60; have := z3.2; omega⟩
     line := by
       have hl := hm.line; have hs := hm.seen; have ha := z3.1; show 0 ≤ line ∧ line ≤ ((cF (bf m.2.2.2.1 F) : Nat) : Int); rw [← W4]
       split <;> split <;> (try split) <;> omega
     heard := by
       have hl := hm.heard; show 0 ≤ m.2.2.2.2.2.2.2.2.2.1 ∧ m.2.2.2.2.2.2.2.2.2.1 ≤ ((cF (bf m.2.2.2.1 F) : Nat) : Int); omega
     last := .inr hnx }
   have W5 : F.length = min 3 m.2.2.2.2.2.1.length ∨ t.2.2.1 + ((F.length : Nat) : Int) = 60 := by
     rcases q5 with h | h | ⟨h, h'⟩
     · exact .inl h
     · exact .inr (by omega)
     · have := hm.short _ h h; omega
   have W6 : line = m.2.2.2.2.2.2.2.2.1 ∨ (line ≤ m.2.2.2.2.2.2.2.1 ∧ line ≤ t.2.2.2.1 ∧ line ≤ ((cF (bf m.2.2.2.1 F) : Nat) : Int)) := by
     rw [← W4]
     split <;> split <;> (try split) <;> omega
   exact { FE := ⟨q1, q2, q3⟩, said := by rw [hFF], id := ⟨rfl, rfl, rfl⟩, items := by rw [hFF], words := ⟨rfl, rfl⟩, round := ⟨rfl, rfl, hle, rfl⟩, last := rfl, nq := hn, tq := hnx, next := ⟨rfl, rfl, rfl⟩, aba := W5, marks := ⟨m5.1.trans (by rw [q6]), m5.2.trans (by rw [q6])⟩, line := W6, W3 := hlk }
 · unfold kH; simp only [ah hc, ai (show ¬ t.2.1 ≤ m.2.2.2.2.2.2.1 by omega), ai (show ¬ (1000000000 : Int) ≤ t.2.1 by omega), kb2, kt2, p2, g2, hN, Option.bind_some, Bool.not_true, cond_false, cond_true, aq, aC, ah (show ((List.length F : Nat) : Int) ≤ ((List.length m.2.2.2.2.1 : Nat) : Int) by omega), ah (show ((List.length F : Nat) : Int) ≤ ((List.length m.2.2.2.2.2.1 : Nat) : Int) by omega)]; rw [Bx (hx := hm.items) (hf := hF) (hn := by omega) ..]; simp only [ir, a2, m2, li, Oq, c2, Option.bind_some, W4]; rw [aH (show ((q7 t m.2.2.2.1).length + F.length) * 40 ≤ lim by unfold lim; omega)]; rfl
 · subst W4; unfold iK; simp only [ah hc, ai (show ¬ t.2.1 ≤ m.2.2.2.2.2.2.1 by omega), ai (show ¬ (1000000000 : Int) ≤ t.2.1 by omega), kb1, kt1, p1, g1, s1, Option.bind_some, Bool.not_true, cond_false, cond_true, aq, aC, ah (show ((List.length F : Nat) : Int) ≤ ((List.length m.2.2.2.2.1 : Nat) : Int) by omega), ah (show ((List.length F : Nat) : Int) ≤ ((List.length m.2.2.2.2.2.1 : Nat) : Int) by omega),
     aH (show (0 + (q7 t m.2.2.2.1).length) * 40 ≤ lim by unfold lim; omega), aH (show (0 + (List.drop F.length m.2.2.2.2.1).length) * 8 ≤ lim by rw [List.length_drop]; unfold lim; omega), aH (show (0 + (List.drop F.length m.2.2.2.2.2.1).length) * 16 ≤ lim by rw [List.length_drop]; unfold lim; omega), List.nil_append]
   rw [By (hx := hm.items) (hf := hF) (hn := by omega) ..]; simp only [ir, a1, m1, Option.bind_some, aH (show ((q7 t m.2.2.2.1).length + F.length) * 40 ≤ lim by unfold lim; omega), cond_true]
   by_cases h1 : t.2.2.2.1 < m.2.2.2.2.2.2.2.1
   · rw [ah h1, if_pos h1]; simp only [cond_true]
     by_cases h2 : ((cF (bf m.2.2.2.1 F) : Nat) : Int) < t.2.2.2.1
     · rw [ah h2, if_pos h2]; simp only [cond_true]
       by_cases h3 : m.2.2.2.2.2.2.2.2.1 < ((cF (bf m.2.2.2.1 F) : Nat) : Int)
       · rw [ah h3, if_pos (show ((cF (bf m.2.2.2.1 F) : Nat) : Int) > m.2.2.2.2.2.2.2.2.1 from h3)]; simp only [cond_true, ls, Oq, c1, Option.bind_some]
       · rw [ai h3, if_neg (show ¬ ((cF (bf m.2.2.2.1 F) : Nat) : Int) > m.2.2.2.2.2.2.2.2.1 from h3)]; simp only [cond_false, ls, Oq, c1, Option.bind_some]
     · rw [ai h2, if_neg h2]; simp only [cond_false]
       by_cases h3 : m.2.2.2.2.2.2.2.2.1 < t.2.2.2.1
       · rw [ah h3, if_pos (show t.2.2.2.1 > m.2.2.2.2.2.2.2.2.1 from h3)]; simp only [cond_true, ls, Oq, c1, Option.bind_some]
       · rw [ai h3, if_neg (show ¬ t.2.2.2.1 > m.2.2.2.2.2.2.2.2.1 from h3)]; simp only [cond_false, ls, Oq, c1, Option.bind_some]
   · rw [ai h1, if_neg h1]; simp only [cond_false]
     by_cases h2 : ((cF (bf m.2.2.2.1 F) : Nat) : Int) < m.2.2.2.2.2.2.2.1
     · rw [ah h2, if_pos h2]; simp only [cond_true]
       by_cases h3 : m.2.2.2.2.2.2.2.2.1 < ((cF (bf m.2.2.2.1 F) : Nat) : Int)
       · rw [ah h3, if_pos (show ((cF (bf m.2.2.2.1 F) : Nat) : Int) > m.2.2.2.2.2.2.2.2.1 from h3)]; simp only [cond_true, ls, Oq, c1, Option.bind_some]
       · rw [ai h3, if_neg (show ¬ ((cF (bf m.2.2.2.1 F) : Nat) : Int) > m.2.2.2.2.2.2.2.2.1 from h3)]; simp only [cond_false, ls, Oq, c1, Option.bind_some]
     · rw [ai h2, if_neg h2]; simp only [cond_false]
       by_cases h3 : m.2.2.2.2.2.2.2.2.1 < m.2.2.2.2.2.2.2.1
       · rw [ah h3, if_pos (show m.2.2.2.2.2.2.2.1 > m.2.2.2.2.2.2.2.2.1 from h3)]; simp only [cond_true, ls, Oq, c1, Option.bind_some]
       · rw [ai h3, if_neg (show ¬ m.2.2.2.2.2.2.2.1 > m.2.2.2.2.2.2.2.2.1 from h3)]; simp only [cond_false, ls, Oq, c1, Option.bind_some]
noncomputable def Iw (m : ew) (t : kt) : Bool := u0 m && (B4 t && (decide (t.1 = m.2.1) && (decide (m.2.2.2.2.2.2.1 < t.2.1) && decide (t.2.1 < 1000000000))))
theorem Ot (m : ew) (t : kt) (h : zw m ≤ 1048576) (hw : t.2.2.2.2.2.1.length ≤ 1048576) (hn : Iw m t = false) : kH m.1 m.2.1 m.2.2.1 m.2.2.2.1 m.2.2.2.2.1 m.2.2.2.2.2.1 m.2.2.2.2.2.2.1 m.2.2.2.2.2.2.2.1 m.2.2.2.2.2.2.2.2.1 m.2.2.2.2.2.2.2.2.2.1 m.2.2.2.2.2.2.2.2.2.2.1 m.2.2.2.2.2.2.2.2.2.2.2.1 m.2.2.2.2.2.2.2.2.2.2.2.2.1 m.2.2.2.2.2.2.2.2.2.2.2.2.2.1 m.2.2.2.2.2.2.2.2.2.2.2.2.2.2.1 m.2.2.2.2.2.2.2.2.2.2.2.2.2.2.2.1 t.1 t.2.1 t.2.2.1 t.2.2.2.1 t.2.2.2.2.1 t.2.2.2.2.2.1 = some ((0 : Int), (0 : Int), [], [], [], [], (0 : Int), (0 : Int), (0 : Int), (0 : Int), (0 : Int), (0 : Int), (0 : Int), (0 : Int), (0 : Int), [], [], (0 : Int), (0 : Int), (0 : Int), (0 : Int), (0 : Int), (0 : Int), [], false, ()) ∧
   iK m.1 m.2.1 m.2.2.1 m.2.2.2.1 m.2.2.2.2.1 m.2.2.2.2.2.1 m.2.2.2.2.2.2.1 m.2.2.2.2.2.2.2.1 m.2.2.2.2.2.2.2.2.1 m.2.2.2.2.2.2.2.2.2.1 m.2.2.2.2.2.2.2.2.2.2.1 m.2.2.2.2.2.2.2.2.2.2.2.1 m.2.2.2.2.2.2.2.2.2.2.2.2.1 m.2.2.2.2.2.2.2.2.2.2.2.2.2.1 m.2.2.2.2.2.2.2.2.2.2.2.2.2.2.1 m.2.2.2.2.2.2.2.2.2.2.2.2.2.2.2.1 t.1 t.2.1 t.2.2.1 t.2.2.2.1 t.2.2.2.2.1 t.2.2.2.2.2.1 = some (m.1, m.2.1, m.2.2.1, m.2.2.2.1, m.2.2.2.2.1, m.2.2.2.2.2.1, m.2.2.2.2.2.2.1, m.2.2.2.2.2.2.2.1, m.2.2.2.2.2.2.2.2.1, m.2.2.2.2.2.2.2.2.2.1, m.2.2.2.2.2.2.2.2.2.2.1, m.2.2.2.2.2.2.2.2.2.2.2.1, m.2.2.2.2.2.2.2.2.2.2.2.2.1, m.2.2.2.2.2.2.2.2.2.2.2.2.2.1, m.2.2.2.2.2.2.2.2.2.2.2.2.2.2.1, m.2.2.2.2.2.2.2.2.2.2.2.2.2.2.2.1, [], (0 : Int), (0 : Int), (0 : Int), (0 : Int), (0 : Int), [], false, ()) := by
 obtain ⟨k1, k2, _⟩ := sF m h; obtain ⟨t1, t2, _⟩ := Bq t hw; obtain ⟨p1, _⟩ := kI m.1 m.2.1 m.2.2.1 m.2.2.2.1 m.2.2.2.2.1 m.2.2.2.2.2.1 m.2.2.2.2.2.2.1 m.2.2.2.2.2.2.2.1 m.2.2.2.2.2.2.2.2.1 m.2.2.2.2.2.2.2.2.2.1 m.2.2.2.2.2.2.2.2.2.2.1 m.2.2.2.2.2.2.2.2.2.2.2.1 m.2.2.2.2.2.2.2.2.2.2.2.2.1 m.2.2.2.2.2.2.2.2.2.2.2.2.2.1 m.2.2.2.2.2.2.2.2.2.2.2.2.2.2.1 m.2.2.2.2.2.2.2.2.2.2.2.2.2.2.2.1 h; unfold Iw at hn
 constructor
 · unfold kH
   by_cases a1 : t.1 = m.2.1
   case neg => rw [ai a1]; rfl
   by_cases a2 : m.2.2.2.2.2.2.1 < t.2.1
   case neg => rw [ah a1, ah (show t.2.1 ≤ m.2.2.2.2.2.2.1 by omega)]; rfl
   by_cases a3 : t.2.1 < 1000000000
   case neg => rw [ah a1, ai (show ¬ t.2.1 ≤ m.2.2.2.2.2.2.1 by omega), ah (show (1000000000 : Int) ≤ t.2.1 by omega)]; rfl
   rw [ah a1, ah a2, ah a3] at hn; rw [ah a1, ai (show ¬ t.2.1 ≤ m.2.2.2.2.2.2.1 by omega), ai (show ¬ (1000000000 : Int) ≤ t.2.1 by omega)]; simp only [Bool.not_true, cond_false, k2, Option.bind_some]
   cases hb : u0 m
   · rfl
   · rw [hb] at hn
     cases hc : B4 t
     · simp only [t2, hc, Bool.not_true, cond_false, Option.bind_some]; rfl
     · rw [hc] at hn; cases hn
 · unfold iK; simp only [p1, k1, Option.bind_some]
   cases hb : u0 m
   · rfl
   simp only [Bool.not_true, cond_false, t1, Option.bind_some]
   cases hc : B4 t
   · rfl
   by_cases a1 : t.1 = m.2.1
   case neg => rw [ai a1]; rfl
   by_cases a2 : m.2.2.2.2.2.2.1 < t.2.1
   case neg => rw [ah a1, ah (show t.2.1 ≤ m.2.2.2.2.2.2.1 by omega)]; rfl
   by_cases a3 : t.2.1 < 1000000000
   case neg => rw [ah a1, ai (show ¬ t.2.1 ≤ m.2.2.2.2.2.2.1 by omega), ah (show (1000000000 : Int) ≤ t.2.1 by omega)]; rfl
   rw [ah a1, ah a2, ah a3, hb, hc] at hn
   cases hn
def aW : ew := (0, 0, [], [], [], [], 0, 0, 0, 0, 0, 0, 0, 0, 0, [], ())
def Ix (m : ew) (level : Int) (text : ByteArray) : ew := (m.1, m.2.1, m.2.2.1, m.2.2.2.1, m.2.2.2.2.1 ++ [(level, ())], m.2.2.2.2.2.1 ++ [(text, ())], m.2.2.2.2.2.2)
noncomputable def MV (m : ew) (level : Int) (text : ByteArray) : Bool := u0 m && ((decide (1 ≤ level) && decide (level ≤ 2)) && (decide (ByteArray.size text ≤ 60) && decide (m.2.2.2.2.2.1.length < 20)))
noncomputable def ij (m : ew) (level : Int) (text : ByteArray) : ew × Bool := bif MV m level text then (Ix m level text, true) else (aW, false)
theorem MW (m : ew) (level : Int) (text : ByteArray) (h : zw m ≤ 1048576) : tR m.1 m.2.1 m.2.2.1 m.2.2.2.1 m.2.2.2.2.1 m.2.2.2.2.2.1 m.2.2.2.2.2.2.1 m.2.2.2.2.2.2.2.1 m.2.2.2.2.2.2.2.2.1 m.2.2.2.2.2.2.2.2.2.1 m.2.2.2.2.2.2.2.2.2.2.1 m.2.2.2.2.2.2.2.2.2.2.2.1 m.2.2.2.2.2.2.2.2.2.2.2.2.1 m.2.2.2.2.2.2.2.2.2.2.2.2.2.1 m.2.2.2.2.2.2.2.2.2.2.2.2.2.2.1 m.2.2.2.2.2.2.2.2.2.2.2.2.2.2.2.1 level text = some ((ij m level text).1.1, (ij m level text).1.2.1, (ij m level text).1.2.2.1, (ij m level text).1.2.2.2.1, (ij m level text).1.2.2.2.2.1, (ij m level text).1.2.2.2.2.2.1, (ij m level text).1.2.2.2.2.2.2.1, (ij m level text).1.2.2.2.2.2.2.2.1, (ij m level text).1.2.2.2.2.2.2.2.2.1, (ij m level text).1.2.2.2.2.2.2.2.2.2.1, (ij m level text).1.2.2.2.2.2.2.2.2.2.2.1, (ij m level text).1.2.2.2.2.2.2.2.2.2.2.2.1, (ij m level text).1.2.2.2.2.2.2.2.2.2.2.2.2.1, (ij m level text).1.2.2.2.2.2.2.2.2.2.2.2.2.2.1, (ij m level text).1.2.2.2.2.2.2.2.2.2.2.2.2.2.2.1, (ij m level text).1.2.2.2.2.2.2.2.2.2.2.2.2.2.2.2.1, (ij m level text).2, ()) ∧ Fo m.1 m.2.1 m.2.2.1 m.2.2.2.1 m.2.2.2.2.1 m.2.2.2.2.2.1 m.2.2.2.2.2.2.1 m.2.2.2.2.2.2.2.1 m.2.2.2.2.2.2.2.2.1 m.2.2.2.2.2.2.2.2.2.1 m.2.2.2.2.2.2.2.2.2.2.1 m.2.2.2.2.2.2.2.2.2.2.2.1 m.2.2.2.2.2.2.2.2.2.2.2.2.1 m.2.2.2.2.2.2.2.2.2.2.2.2.2.1 m.2.2.2.2.2.2.2.2.2.2.2.2.2.2.1 m.2.2.2.2.2.2.2.2.2.2.2.2.2.2.2.1 level text = some ((ij m level text).1.1, (ij m level text).1.2.1, (ij m level text).1.2.2.1, (ij m level text).1.2.2.2.1, (ij m level text).1.2.2.2.2.1, (ij m level text).1.2.2.2.2.2.1, (ij m level text).1.2.2.2.2.2.2.1, (ij m level text).1.2.2.2.2.2.2.2.1, (ij m level text).1.2.2.2.2.2.2.2.2.1, (ij m level text).1.2.2.2.2.2.2.2.2.2.1, (ij m level text).1.2.2.2.2.2.2.2.2.2.2.1, (ij m level text).1.2.2.2.2.2.2.2.2.2.2.2.1, (ij m level text).1.2.2.2.2.2.2.2.2.2.2.2.2.1, (ij m level text).1.2.2.2.2.2.2.2.2.2.2.2.2.2.1, (ij m level text).1.2.2.2.2.2.2.2.2.2.2.2.2.2.2.1, (ij m level text).1.2.2.2.2.2.2.2.2.2.2.2.2.2.2.2.1, (ij m level text).2, ()) := by
 obtain ⟨k1, k2, k3⟩ := sF m h; obtain ⟨p1, p2⟩ := kI m.1 m.2.1 m.2.2.1 m.2.2.2.1 m.2.2.2.2.1 m.2.2.2.2.2.1 m.2.2.2.2.2.2.1 m.2.2.2.2.2.2.2.1 m.2.2.2.2.2.2.2.2.1 m.2.2.2.2.2.2.2.2.2.1 m.2.2.2.2.2.2.2.2.2.2.1 m.2.2.2.2.2.2.2.2.2.2.2.1 m.2.2.2.2.2.2.2.2.2.2.2.2.1 m.2.2.2.2.2.2.2.2.2.2.2.2.2.1 m.2.2.2.2.2.2.2.2.2.2.2.2.2.2.1 m.2.2.2.2.2.2.2.2.2.2.2.2.2.2.2.1 h; unfold tR Fo ij MV; simp only [k1, k2, p1, p2, mO, xH, Option.bind_some]
 cases hb : u0 m
 · cases (decide (1 ≤ level) && decide (level ≤ 2))
   · exact ⟨rfl, rfl⟩
   cases decide ((60 : Int) < ((ByteArray.size text : Nat) : Int))
   · cases decide ((20 : Int) ≤ ((List.length m.2.2.2.2.2.1 : Nat) : Int))
     · exact ⟨rfl, rfl⟩
     · exact ⟨rfl, rfl⟩
   · exact ⟨rfl, rfl⟩
 have hs := (k3.1 hb).small; unfold zw at hs
 cases (decide (1 ≤ level) && decide (level ≤ 2))
 · exact ⟨rfl, rfl⟩
 by_cases w1 : ByteArray.size text ≤ 60
 case neg => rw [ai w1, ah (show (60 : Int) < ((ByteArray.size text : Nat) : Int) by omega)]; exact ⟨rfl, rfl⟩
 by_cases w2 : m.2.2.2.2.2.1.length < 20
 case neg => rw [ah w1, ai w2, ai (show ¬ (60 : Int) < ((ByteArray.size text : Nat) : Int) by omega), ah (show (20 : Int) ≤ ((List.length m.2.2.2.2.2.1 : Nat) : Int) by omega)]; exact ⟨rfl, rfl⟩
 rw [ah w1, ah w2, ai (show ¬ (60 : Int) < ((ByteArray.size text : Nat) : Int) by omega), ai (show ¬ (20 : Int) ≤ ((List.length m.2.2.2.2.2.1 : Nat) : Int) by omega)]; simp only [Bool.not_true, cond_false, aH (show (m.2.2.2.2.1.length + 1) * 8 ≤ lim by unfold lim; omega), aH (show (m.2.2.2.2.2.1.length + 1) * 16 ≤ lim by unfold lim; omega), cond_true, Bool.and_true]; exact ⟨rfl, rfl⟩
theorem Ou {m : ew} (hm : sE m) {level : Int} {text : ByteArray} (hl : 1 ≤ level ∧ level ≤ 2) (ht : ByteArray.size text ≤ 60) (hn : m.2.2.2.2.2.1.length < 20) : sE (Ix m level text) := {
 ring := hm.ring
 mem := hm.mem
 items := hm.items
 texts := ⟨by show (m.2.2.2.2.2.1 ++ [(text, ())]).length ≤ 20; simp; omega, by show (m.2.2.2.2.1 ++ [(level, ())]).length = (m.2.2.2.2.2.1 ++ [(text, ())]).length; have := hm.texts.2; simp; omega⟩
 Oj := fun j hj _ => by
   have hj : j < (m.2.2.2.2.1 ++ [(level, ())]).length := hj; show (decide (1 ≤ (m.2.2.2.2.1 ++ [(level, ())])[j].1) && decide ((m.2.2.2.2.1 ++ [(level, ())])[j].1 ≤ 2)) = true
   by_cases h : j < m.2.2.2.2.1.length
   · rw [List.getElem_append_left h]; exact hm.Oj j h h
   · have : j = m.2.2.2.2.1.length := by simp at hj; omega
     subst this; simp [hl.1, hl.2]
 short := fun j hj _ => by
   have hj : j < (m.2.2.2.2.2.1 ++ [(text, ())]).length := hj; show ByteArray.size (m.2.2.2.2.2.1 ++ [(text, ())])[j].1 ≤ 60
   by_cases h : j < m.2.2.2.2.2.1.length
   · rw [List.getElem_append_left h]; exact hm.short j h h
   · have : j = m.2.2.2.2.2.1.length := by simp at hj; omega
     subst this; simpa using ht
 round := hm.round
 seen := hm.seen
 line := hm.line
 heard := hm.heard
 last := hm.last }
theorem DQ {c2 d : Int} {lv : dy} {tx : List (ByteArray × Unit)} {m k : Nat} (hk : k < (cU c2 d lv tx m).length) : (cU c2 d lv tx m)[k] = uM c2 d lv tx k := by
 simp [cU]
theorem xO {c2 d : Int} {lv : dy} {tx : List (ByteArray × Unit)} {m : Nat} {f : dx} (hf : f ∈ cU c2 d lv tx m) : ∃ k, k < m ∧ f = uM c2 d lv tx k := by
 obtain ⟨k, hk, rfl⟩ := List.mem_iff_getElem.1 hf; rw [og] at hk; exact ⟨k, hk, DQ _⟩
def JL (m : ew) (v : Int) : ew := (m.1, m.2.1, m.2.2.1, m.2.2.2.1, m.2.2.2.2.1, m.2.2.2.2.2.1, m.2.2.2.2.2.2.1, m.2.2.2.2.2.2.2.1, m.2.2.2.2.2.2.2.2.1, v, m.2.2.2.2.2.2.2.2.2.2)
theorem DR {m : ew} (hm : sE m) : ∃ (k : Nat) (n : ew), n = JL m (m.2.2.2.2.2.2.2.2.2.1 + ((k : Nat) : Int)) ∧ l6 m.1 m.2.1 m.2.2.1 m.2.2.2.1 m.2.2.2.2.1 m.2.2.2.2.2.1 m.2.2.2.2.2.2.1 m.2.2.2.2.2.2.2.1 m.2.2.2.2.2.2.2.2.1 m.2.2.2.2.2.2.2.2.2.1 m.2.2.2.2.2.2.2.2.2.2.1 m.2.2.2.2.2.2.2.2.2.2.2.1 m.2.2.2.2.2.2.2.2.2.2.2.2.1 m.2.2.2.2.2.2.2.2.2.2.2.2.2.1 m.2.2.2.2.2.2.2.2.2.2.2.2.2.2.1 m.2.2.2.2.2.2.2.2.2.2.2.2.2.2.2.1 = some (n.1, n.2.1, n.2.2.1, n.2.2.2.1, n.2.2.2.2.1, n.2.2.2.2.2.1, n.2.2.2.2.2.2.1, n.2.2.2.2.2.2.2.1, n.2.2.2.2.2.2.2.2.1, n.2.2.2.2.2.2.2.2.2.1, n.2.2.2.2.2.2.2.2.2.2.1, n.2.2.2.2.2.2.2.2.2.2.2.1, n.2.2.2.2.2.2.2.2.2.2.2.2.1, n.2.2.2.2.2.2.2.2.2.2.2.2.2.1, n.2.2.2.2.2.2.2.2.2.2.2.2.2.2.1, n.2.2.2.2.2.2.2.2.2.2.2.2.2.2.2.1, fF m.2.2.2.1 m.2.2.2.2.2.2.2.2.2.1 k, ()) ∧ oD m.1 m.2.1 m.2.2.1 m.2.2.2.1 m.2.2.2.2.1 m.2.2.2.2.2.1 m.2.2.2.2.2.2.1 m.2.2.2.2.2.2.2.1 m.2.2.2.2.2.2.2.2.1 m.2.2.2.2.2.2.2.2.2.1 m.2.2.2.2.2.2.2.2.2.2.1 m.2.2.2.2.2.2.2.2.2.2.2.1 m.2.2.2.2.2.2.2.2.2.2.2.2.1 m.2.2.2.2.2.2.2.2.2.2.2.2.2.1 m.2.2.2.2.2.2.2.2.2.2.2.2.2.2.1 m.2.2.2.2.2.2.2.2.2.2.2.2.2.2.2.1 = some (n.1, n.2.1, n.2.2.1, n.2.2.2.1, n.2.2.2.2.1, n.2.2.2.2.2.1, n.2.2.2.2.2.2.1, n.2.2.2.2.2.2.2.1, n.2.2.2.2.2.2.2.2.1, n.2.2.2.2.2.2.2.2.2.1, n.2.2.2.2.2.2.2.2.2.2.1, n.2.2.2.2.2.2.2.2.2.2.2.1, n.2.2.2.2.2.2.2.2.2.2.2.2.1, n.2.2.2.2.2.2.2.2.2.2.2.2.2.1, n.2.2.2.2.2.2.2.2.2.2.2.2.2.2.1, n.2.2.2.2.2.2.2.2.2.2.2.2.2.2.2.1, fF m.2.2.2.1 m.2.2.2.2.2.2.2.2.2.1 k, ()) ∧ sE n ∧
   m.2.2.2.2.2.2.2.2.2.1 + ((k : Nat) : Int) ≤ ((cF m.2.2.2.1 : Nat) : Int) ∧ (∀ j, j < k → ¬ xM m.2.2.2.1 m.2.2.2.2.2.2.2.2.1 (m.2.2.2.2.2.2.2.2.2.1 + ((j + 1 : Nat) : Int))) ∧ (m.2.2.2.2.2.2.2.2.2.1 + ((k : Nat) : Int) < ((cF m.2.2.2.1 : Nat) : Int) → xM m.2.2.2.1 m.2.2.2.2.2.2.2.2.1 (m.2.2.2.2.2.2.2.2.2.1 + ((k + 1 : Nat) : Int))) := by
 have hw := hm.small; have hb := (sF m (Nat.le_trans hw (by decide))).2.2.2 hm; obtain ⟨k, v, h1, h2, h3, _, h5⟩ := MO m (Nat.le_trans hw (by decide)); subst h3; obtain ⟨g1, g2, g3⟩ := h5 hb; have hh := hm.heard; exact ⟨k, _, rfl, h2, h1, { ring := hm.ring, mem := hm.mem, items := hm.items, texts := hm.texts, Oj := hm.Oj, short := hm.short, round := hm.round, seen := hm.seen, line := hm.line, heard := ⟨by show 0 ≤ m.2.2.2.2.2.2.2.2.2.1 + ((k : Nat) : Int); omega, g1⟩, last := hm.last }, g1, g2, g3⟩
def dP (code : List (Int × Unit)) (at_ : Int) : Prop := 0 ≤ at_ ∧ at_ ≤ ((code.length : Nat) : Int) ∧ code.length ≤ 1048576
theorem zJ (y : Int) : 0 ≤ IntKind.i64.wrap ((BitVec.ofInt IntKind.i64.bits y &&& BitVec.ofInt IntKind.i64.bits (255 : Int)).toNat : Int) ∧ IntKind.i64.wrap ((BitVec.ofInt IntKind.i64.bits y &&& BitVec.ofInt IntKind.i64.bits (255 : Int)).toNat : Int) ≤ 255 := by
 have h : (BitVec.ofInt IntKind.i64.bits y &&& BitVec.ofInt IntKind.i64.bits (255 : Int)).toNat ≤ 255 := by
   rw [BitVec.toNat_and]; exact Nat.le_trans Nat.and_le_right (by decide)
 rw [eA (by omega) (by omega)]; omega
def PR (code : List (Int × Unit)) (o : Option (Int × (List (Int × Unit)) × Int × Int × Unit)) (lo hi : Int) : Prop :=
 ∃ v FF s', o = some (v, code, FF, s', ()) ∧ lo ≤ v ∧ v < hi ∧ dP code FF
theorem xP (code : List (Int × Unit)) (at_ pV : Int) (h : dP code at_) : PR code (fZ code at_ pV) 0 256 := by
 obtain ⟨h0, h1, h2⟩ := h; unfold fZ
 by_cases bP : at_ < ((List.length code : Nat) : Int)
 · obtain ⟨k, rfl⟩ := Int.eq_ofNat_of_zero_le h0; have hk : k < code.length := by omega
   rw [ah bP]; simp only [cond_true, aq, aC, List.getElem?_eq_getElem hk, Option.bind_some, aJ (show k < 4611686018427387904 by omega)]; exact ⟨_, _, _, rfl, (zJ _).1, by have := (zJ (IntKind.i64.wrap ((IntKind.i64.wrap ((BitVec.ofInt IntKind.i64.bits (IntKind.i64.wrap ((BitVec.ofInt IntKind.i64.bits (Int.fdiv (IntKind.i64.wrap ((IntKind.i64.wrap (pV * (6364136223846793005 : Int))) + (1442695040888963407 : Int))) (2 ^ (min 33 IntKind.i64.bits))) ^^^ BitVec.ofInt IntKind.i64.bits (Int.fdiv (IntKind.i64.wrap ((IntKind.i64.wrap (pV * (6364136223846793005 : Int))) + (1442695040888963407 : Int))) (2 ^ (min 45 IntKind.i64.bits)))).toNat : Int)) &&& BitVec.ofInt IntKind.i64.bits (255 : Int)).toNat : Int)) + (IntKind.i64.wrap code[k].1)))).2; exact Int.lt_add_one_of_le this, by omega, by omega, h2⟩
 · rw [ai bP]; exact ⟨_, _, _, rfl, (zJ _).1, Int.lt_add_one_of_le (zJ _).2, h0, h1, h2⟩
theorem wF {v n : Int} (hv : 0 ≤ v) (hn : 0 < n) : 0 ≤ Int.tmod v n ∧ Int.tmod v n < n := by
 obtain ⟨a, rfl⟩ := Int.eq_ofNat_of_zero_le hv; obtain ⟨b, rfl⟩ := Int.eq_ofNat_of_zero_le (Int.le_of_lt hn); have : Int.tmod ((a : Nat) : Int) ((b : Nat) : Int) = ((a % b : Nat) : Int) := rfl; rw [this]; have := Nat.mod_lt a (show 0 < b by omega); omega
theorem mP (code : List (Int × Unit)) (at_ pV n : Int) (h : dP code at_) (hn : 0 < n) : PR code (bc code at_ pV n) 0 n := by
 unfold bc; rw [ai (show ¬ n ≤ 0 by omega), ai (show ¬ n = 0 by omega)]
 by_cases W7 : n ≤ 256
 · obtain ⟨v, a1, s1, e1, v1, v2, d1⟩ := xP code at_ pV h; rw [ah W7]; simp only [cond_false, cond_true, e1, Option.bind_some]; exact ⟨_, _, _, rfl, (wF v1 hn).1, (wF v1 hn).2, d1⟩
 · obtain ⟨v, a1, s1, e1, v1, v2, d1⟩ := xP code at_ pV h; obtain ⟨w, a2, s2, e2, w1, w2, d2⟩ := xP code a1 s1 d1; obtain ⟨x, a3, s3, e3, x1, x2, d3⟩ := xP code a2 s2 d2; obtain ⟨y, a4, s4, e4, y1, y2, d4⟩ := xP code a3 s3 d3; rw [ai W7]; simp only [cond_false, e1, e2, e3, e4, Option.bind_some]; have hw : IntKind.i64.wrap ((IntKind.i64.wrap ((IntKind.i64.wrap ((IntKind.i64.wrap (v * (16777216 : Int))) + (IntKind.i64.wrap (w * (65536 : Int))))) + (IntKind.i64.wrap (x * (256 : Int))))) + y) = v * 16777216 + w * 65536 + x * 256 + y := by
     rw [eA (show -9223372036854775808 ≤ v * (16777216 : Int) by omega) (by omega), eA (show -9223372036854775808 ≤ w * (65536 : Int) by omega) (by omega), eA (show -9223372036854775808 ≤ x * (256 : Int) by omega) (by omega),
       eA (show -9223372036854775808 ≤ v * (16777216 : Int) + w * 65536 by omega) (by omega), eA (show -9223372036854775808 ≤ v * (16777216 : Int) + w * 65536 + x * 256 by omega) (by omega), eA (by omega) (by omega)]
   rw [hw]; have hr := wF (v := v * 16777216 + w * 65536 + x * 256 + y) (by omega) hn; exact ⟨_, _, _, rfl, hr.1, hr.2, d4⟩
theorem DS (code : List (Int × Unit)) (at_ pV n : Int) (h : dP code at_) (hn : 0 < n) : ∃ b FF s', hY code at_ pV n = some (b, code, FF, s', ()) ∧ dP code FF := by
 obtain ⟨v, a1, s1, e1, v1, v2, d1⟩ := mP code at_ pV n h hn; unfold hY; simp only [e1, Option.bind_some]; exact ⟨_, _, _, rfl, d1⟩
def Sn {B : Type} (code : List (Int × Unit)) : Sum ((List (Int × Unit)) × Int × Unit) B → Prop
 | .inl y => y.1 = code
 | .inr _ => False
theorem Sp (code : List (Int × Unit)) (h : code.length ≤ 1048576) : ∃ s', mA code = some (code, (0 : Int), s', ()) := by
 unfold mA; obtain ⟨e, he, hq⟩ := ef (round := jh) (x := (code, IntKind.i64.wrap ((27101 : Int) + ((List.length code : Nat) : Int)), ((0 : Nat) : Int), ())) code.length (fun k x => ∃ s, x = (code, s, ((k : Nat) : Int), ())) (Sn code) (by
   rintro x ⟨s, rfl⟩
   exact ⟨.inl (code, s, ()), by simp only [jh, oZ, aF, cond_false], rfl⟩) (by
   rintro k x hk ⟨s, rfl⟩
   simp only [jh, oZ, az hk, aq, cond_true, aC, List.getElem?_eq_getElem hk, Option.bind_some, aJ (show k < 4611686018427387904 by omega)]
   cases decide (((k : Nat) : Int) < (4000 : Int))
   · exact .inl ⟨.inl (code, s, ()), rfl, rfl⟩
   · exact .inr ⟨_, rfl, _, rfl⟩) ⟨_, rfl⟩
 rw [show ((0 : Nat) : Int) = (0 : Int) from rfl] at he; rw [he]
 cases e with
 | inr e => exact hq.elim
 | inl e =>
   have hq : e.1 = code := hq; exact ⟨e.2.1, by rw [← hq]; rfl⟩
theorem Ov (code : List (Int × Unit)) (at_ pV : Int) (l : List (Int × Unit)) (h : dP code at_) (h0 : 0 < l.length) : ∃ v FF s', eT code at_ pV l = some (v, code, FF, s', ()) ∧ (v, ()) ∈ l ∧ dP code FF := by
 obtain ⟨v, a1, s1, e1, v1, v2, d1⟩ := mP code at_ pV ((l.length : Nat) : Int) h (by omega); obtain ⟨k, rfl⟩ := Int.eq_ofNat_of_zero_le v1; have hk : k < l.length := by omega
 unfold eT; simp only [e1, Option.bind_some, aq, cond_true, aC, List.getElem?_eq_getElem hk]; exact ⟨_, _, _, rfl, List.getElem_mem hk, d1⟩
theorem MX (code : List (Int × Unit)) (at_ pV : Int) (l : List (ByteArray × Unit)) (h : dP code at_) (h0 : 0 < l.length) : ∃ v FF s', nZ code at_ pV l = some (v, code, FF, s', ()) ∧ (v, ()) ∈ l ∧ dP code FF := by
 obtain ⟨v, a1, s1, e1, v1, v2, d1⟩ := mP code at_ pV ((l.length : Nat) : Int) h (by omega); obtain ⟨k, rfl⟩ := Int.eq_ofNat_of_zero_le v1; have hk : k < l.length := by omega
 unfold nZ; simp only [e1, Option.bind_some, aq, cond_true, aC, List.getElem?_eq_getElem hk]; exact ⟨_, _, _, rfl, List.getElem_mem hk, d1⟩
def nK (xs : List (Int × Unit)) (m : Nat) : Prop := xs.length ≤ m ∧ (∀ j (hj : j < xs.length), 1 ≤ xs[j].1 ∧ xs[j].1 ≤ ((m : Nat) : Int)) ∧ ∀ i j (hi : i < xs.length) (hj : j < xs.length), i < j → xs[i].1 < xs[j].1
theorem nK.snoc {xs : List (Int × Unit)} {m : Nat} (h : nK xs m) : nK (xs ++ [(((m + 1 : Nat) : Int), ())]) (m + 1) := by
 obtain ⟨h1, h2, h3⟩ := h; refine ⟨by simp; omega, fun j hj => ?_, fun i j hi hj NM => ?_⟩
 · by_cases hx : j < xs.length
   · rw [List.getElem_append_left hx]; have := h2 j hx; omega
   · have : j = xs.length := by simp at hj; omega
     subst this; simp; omega
 · by_cases hx : j < xs.length
   · rw [List.getElem_append_left hx, List.getElem_append_left (by omega)]; exact h3 i j (by omega) hx NM
   · have hj' : j = xs.length := by simp at hj; omega
     subst hj'; have Nq : i < xs.length := NM; rw [List.getElem_append_left Nq]; have := h2 i Nq; simp; omega
theorem nK.up {xs : List (Int × Unit)} {m : Nat} (h : nK xs m) : nK xs (m + 1) :=
 ⟨by have := h.1; omega, fun j hj => by have := h.2.1 j hj; omega, h.2.2⟩
structure FG (c : Int) (xs : List (Int × Unit)) : Prop where
 xz : 1 ≤ c
 id2 : c ≤ 9
 some_ : 1 ≤ xs.length
 rising : nK xs 5
theorem FG.len {c : Int} {xs : List (Int × Unit)} (h : FG c xs) : xs.length ≤ 5 := h.rising.1
def MY {B : Type} (code : List (Int × Unit)) (c : Int) : Sum ((List (Int × Unit)) × Int × Int × Int × (List (Int × Unit)) × Int × (List (Int × Unit)) × Unit) B → Prop
 | .inl y => y.1 = code ∧ dP code y.2.1 ∧ y.2.2.2.2.2.1 = c ∧ nK y.2.2.2.2.2.2.1 4
 | .inr _ => False
theorem HE (code : List (Int × Unit)) (at_ pV : Int) (h : dP code at_) : ∃ c xs FF s', nX code at_ pV = some (c, xs, code, FF, s', ()) ∧ FG c xs ∧ c ≤ 3 ∧ nK xs 4 ∧ dP code FF := by
 obtain ⟨v, a1, s1, e1, v1, v2, d1⟩ := mP code at_ pV 3 h (by omega); unfold nX; rw [e1]; simp only [Option.bind_some]; have hw : IntKind.i64.wrap ((1 : Int) + v) = 1 + v := eA (by omega) (by omega); rw [hw]; obtain ⟨e, he, hq⟩ := ef (round := fH) (x := (code, a1, s1, (0 : Int), [], 1 + v, [], ((1 : Nat) : Int), ())) 4 (fun k x => ∃ (a s : Int) (m : List (Int × Unit)), x = (code, a, s, (0 : Int), [], 1 + v, m, ((k + 1 : Nat) : Int), ()) ∧ dP code a ∧ nK m k)
   (MY code (1 + v)) (by
   rintro x ⟨a, s, m, rfl, da, rm⟩
   exact ⟨.inl (code, a, s, 0, [], 1 + v, m, ()), by simp only [fH, mZ, ai (show ¬ ((4 + 1 : Nat) : Int) ≤ 4 by omega), cond_false], rfl, da, rfl, rm⟩) (by
   rintro k x hk ⟨a, s, m, rfl, da, rm⟩
   obtain ⟨b, a2, s2, e2, d2⟩ := DS code a s 3 da (by omega); have OH := rm.1; have hs : IntKind.i64.wrap (((k + 1 : Nat) : Int) + (1 : Int)) = ((k + 1 + 1 : Nat) : Int) := by rw [eA] <;> omega
   simp only [fH, mZ, ah (show ((k + 1 : Nat) : Int) ≤ 4 by omega), cond_true, e2, Option.bind_some, aH (show (List.length m + 1) * 8 ≤ lim by unfold lim; omega), hs]
   cases b
   · exact .inr ⟨_, rfl, a2, s2, m ++ [(((k + 1 : Nat) : Int), ())], rfl, d2, rm.snoc⟩
   · exact .inr ⟨_, rfl, a2, s2, m, rfl, d2, rm.up⟩) ⟨a1, s1, [], rfl, d1, by simp, fun j hj => by simp at hj, fun i j hi => by simp at hi⟩
 have he : aE fH (code, a1, s1, (0 : Int), [], 1 + v, [], (1 : Int), ()) = some e := he; rw [he]
 cases e with
 | inr e => exact hq.elim
 | inl e =>
   obtain ⟨y1, y2, y3, y4, y5, y6, y7, _⟩ := e; obtain ⟨q1, q2, q3, q4⟩ := hq; simp only at q1 q2 q3 q4; subst q1 q3; simp only [ir]; have q5 : nK y7 5 := q4.up
   by_cases h0 : ((List.length y7 : Nat) : Int) = 0
   · rw [ah h0]; have r4 : nK [((2 : Int), ())] 4 := ⟨by simp, fun j hj => by
       have : j = 0 := by simp at hj; omega
       subst this; simp, fun i j hi hj NM => by simp at hi hj; omega⟩
     exact ⟨_, _, _, _, rfl, ⟨by omega, by omega, by simp, r4.up⟩, by omega, r4, q2⟩
   · rw [ai h0]; exact ⟨_, _, _, _, rfl, ⟨by omega, by omega, by omega, q5⟩, by omega, q4, q2⟩
abbrev abc : Type := Int × Int × (List (Int × Unit)) × aM × (List (Int × Unit)) × (List (ByteArray × Unit)) × Int × Int × Int × Int × Int × Int × Int × Int × Int × (List (Int × Unit)) × Unit
def om (c : Int) (xs : List (Int × Unit)) (id : Int) : abc := (id, c, xs, [], [], [], 0, 0, 0, 0, 0, 0, 0, 0, 0, [], ())
theorem DT (c : Int) (xs : List (Int × Unit)) (id : Int) (h : xs.length ≤ 1048576) (hr : b8 c xs = some (true, ())) (hm : (id, ()) ∈ xs) : fj id c xs = some (id, c, xs, [], [], [], 0, 0, 0, 0, 0, 0, 0, 0, 0, [], true, ()) := by
 unfold fj; simp only [hr, DI _ _ h, ah hm, Option.bind_some, Bool.not_true, cond_false, aH (show (0 + xs.length) * 8 ≤ lim by unfold lim; omega), cond_true, List.nil_append]
theorem map_take {α β : Type} (f : α → β) (xs : List α) {k : Nat} (hk : k < xs.length) : (xs.take (k + 1)).map f = (xs.take k).map f ++ [f xs[k]] := by
 rw [List.take_succ_eq_append_getElem hk, List.map_append]; rfl
abbrev sH : Type := Int × Bool × Int × Int × Int × Int × Int × dy × Int × Int × Int × ByteArray × Unit
abbrev W8 : Type := List (aM × Unit)
abbrev cG : Type := Int × dy × List ew × List sH × W8 × aM × Unit
def xQ (w : cG) (k : Nat) (m : ew) : cG := (w.1, w.2.1, w.2.2.1.set k m, w.2.2.2)
def oq (w : cG) (l : List sH) : cG := (w.1, w.2.1, w.2.2.1, l, w.2.2.2.2)
def abd (w : cG) (l : W8) : cG := (w.1, w.2.1, w.2.2.1, w.2.2.2.1, l, w.2.2.2.2.2)
def W9 (w : cG) (l : aM) : cG := (w.1, w.2.1, w.2.2.1, w.2.2.2.1, w.2.2.2.2.1, l, ())
theorem HF (w : cG) (h : w.2.2.1.length ≤ 1048576) (id : Int) : ∃ a, ia w.1 w.2.1 w.2.2.1 w.2.2.2.1 w.2.2.2.2.1 w.2.2.2.2.2.1 id = some (a, w.1, w.2.1, w.2.2.1, w.2.2.2.1, w.2.2.2.2.1, w.2.2.2.2.2.1, ()) ∧ ((a = -1 ∧ ∀ k (hk : k < w.2.2.1.length), (w.2.2.1[k]).1 ≠ id) ∨ ∃ k, ∃ hk : k < w.2.2.1.length, a = ((k : Nat) : Int) ∧ (w.2.2.1[k]).1 = id) := by
 obtain ⟨e, he, hq⟩ := ef (round := iH) (x := (w.1, w.2.1, w.2.2.1, w.2.2.2.1, w.2.2.2.2.1, w.2.2.2.2.2.1, id, ((0 : Nat) : Int), ())) w.2.2.1.length (fun k x => x = (w.1, w.2.1, w.2.2.1, w.2.2.2.1, w.2.2.2.2.1, w.2.2.2.2.2.1, id, ((k : Nat) : Int), ()) ∧ ∀ j (hj : j < w.2.2.1.length), j < k → (w.2.2.1[j]).1 ≠ id)
   (fun e => (e = .inl (w.1, w.2.1, w.2.2.1, w.2.2.2.1, w.2.2.2.2.1, w.2.2.2.2.2.1, ()) ∧ ∀ k (hk : k < w.2.2.1.length), (w.2.2.1[k]).1 ≠ id) ∨ ∃ k, ∃ hk : k < w.2.2.1.length, e = .inr (w.1, w.2.1, w.2.2.1, w.2.2.2.1, w.2.2.2.2.1, w.2.2.2.2.2.1, ((k : Nat) : Int), ()) ∧ (w.2.2.1[k]).1 = id) (by
     rintro x ⟨rfl, g⟩
     exact ⟨_, by simp only [iH, qw, aF, cond_false], .inl ⟨rfl, fun k hk => g k hk hk⟩⟩) (by
     rintro k x hk ⟨rfl, g⟩
     simp only [iH, qw, az hk, aq, cond_true, aC, List.getElem?_eq_getElem hk, Option.bind_some, aJ (show k < 4611686018427387904 by omega)]
     by_cases e : (w.2.2.1[k]).1 = id
     · rw [ah e]; exact .inl ⟨_, rfl, .inr ⟨k, hk, rfl, e⟩⟩
     · rw [ai e]; refine .inr ⟨_, rfl, rfl, fun j hj FQ => ?_⟩
       by_cases e2 : j < k
       · exact g j hj e2
       · have : j = k := by omega
         subst this; exact e) ⟨rfl, fun j hj h => by omega⟩
 have he : aE iH (w.1, w.2.1, w.2.2.1, w.2.2.2.1, w.2.2.2.2.1, w.2.2.2.2.2.1, id, (0 : Int), ()) = some e := he; unfold ia; rw [he]; rcases hq with ⟨rfl, g⟩ | ⟨k, hk, rfl, g⟩
 · exact ⟨_, rfl, .inl ⟨rfl, g⟩⟩
 · exact ⟨_, rfl, .inr ⟨k, hk, rfl, g⟩⟩
theorem xR (w : cG) (h : w.2.2.1.length ≤ 1048576) {k : Nat} (hk : k < w.2.2.1.length) (m : ew) : eB w.1 w.2.1 w.2.2.1 w.2.2.2.1 w.2.2.2.2.1 w.2.2.2.2.2.1 ((k : Nat) : Int) m.1 m.2.1 m.2.2.1 m.2.2.2.1 m.2.2.2.2.1 m.2.2.2.2.2.1 m.2.2.2.2.2.2.1 m.2.2.2.2.2.2.2.1 m.2.2.2.2.2.2.2.2.1 m.2.2.2.2.2.2.2.2.2.1 m.2.2.2.2.2.2.2.2.2.2.1 m.2.2.2.2.2.2.2.2.2.2.2.1 m.2.2.2.2.2.2.2.2.2.2.2.2.1 m.2.2.2.2.2.2.2.2.2.2.2.2.2.1 m.2.2.2.2.2.2.2.2.2.2.2.2.2.2.1 m.2.2.2.2.2.2.2.2.2.2.2.2.2.2.2.1 = some ((xQ w k m).1, (xQ w k m).2.1, (xQ w k m).2.2.1, (xQ w k m).2.2.2.1, (xQ w k m).2.2.2.2.1, (xQ w k m).2.2.2.2.2.1, ()) := by
 unfold eB; simp only [aH (show (0 + w.2.2.1.length) * 208 ≤ lim by unfold lim; omega), aq, aC, List.nil_append, my hk, List.getElem?_eq_getElem hk, Option.bind_some, cond_true]; rfl
def ik (ms : List ew) (id : Int) (x : dx) : List sH := (ms.filter fun m => !decide (m.1 = id)).map fun m => (m.1, false, 0, 0, 0, 0, 0, [], x.1, x.2.1, x.2.2.1, x.2.2.2.1, ())
def gJ (ms : List ew) (id : Int) (l : aM) : List sH := l.flatMap (ik ms id)
theorem DU (ms : List ew) (id : Int) (x : dx) {k : Nat} (hk : k < ms.length) : ik (ms.take (k + 1)) id x = ik (ms.take k) id x ++ (bif !decide (ms[k].1 = id) then [(ms[k].1, false, 0, 0, 0, 0, 0, [], x.1, x.2.1, x.2.2.1, x.2.2.2.1, ())] else []) := by
 unfold ik; rw [List.take_succ_eq_append_getElem hk, List.filter_append, List.map_append, List.filter_cons]
 cases decide (ms[k].1 = id) <;> rfl
theorem zo (ms : List ew) (id : Int) (x : dx) : (ik ms id x).length ≤ ms.length := by
 unfold ik; rw [List.length_map]; exact List.length_filter_le _ _
theorem HG (ms : List ew) (id : Int) (l : aM) {k : Nat} (hk : k < l.length) : gJ ms id (l.take (k + 1)) = gJ ms id (l.take k) ++ ik ms id l[k] := by
 unfold gJ; rw [List.take_succ_eq_append_getElem hk, List.flatMap_append]; simp
theorem uN (ms : List ew) (id : Int) (n : Nat) (hn : ms.length ≤ n) : (l : aM) → (gJ ms id l).length ≤ n * l.length
 | [] => Nat.zero_le _
 | x :: l => by
   have h1 := zo ms id x; have h2 := uN ms id n hn l; show (ik ms id x ++ gJ ms id l).length ≤ n * (l.length + 1); rw [List.length_append, Nat.mul_succ]; omega
theorem CT {ms : List ew} {id : Int} {l : aM} {f : sH} (h : f ∈ gJ ms id l) : ∃ m ∈ ms, ∃ x ∈ l, m.1 ≠ id ∧ f = (m.1, false, 0, 0, 0, 0, 0, [], x.1, x.2.1, x.2.2.1, x.2.2.2.1, ()) := by
 unfold gJ ik at h; obtain ⟨x, hx, h⟩ := List.mem_flatMap.1 h; obtain ⟨m, hm, rfl⟩ := List.mem_map.1 h; obtain ⟨hm, hn⟩ := List.mem_filter.1 hm; refine ⟨m, hm, x, hx, fun e => ?_, rfl⟩; rw [ah e] at hn
 cases hn
theorem FH (w : cG) (id : Int) (l : aM) (h1 : w.2.2.1.length ≤ 5) (h2 : w.2.2.2.1.length ≤ 1073741824) (h3 : l.length ≤ 1048576) : jx w.1 w.2.1 w.2.2.1 w.2.2.2.1 w.2.2.2.2.1 w.2.2.2.2.2.1 id l = some ((oq w (w.2.2.2.1 ++ gJ w.2.2.1 id l)).1, (oq w (w.2.2.2.1 ++ gJ w.2.2.1 id l)).2.1, (oq w (w.2.2.2.1 ++ gJ w.2.2.1 id l)).2.2.1, (oq w (w.2.2.2.1 ++ gJ w.2.2.1 id l)).2.2.2.1, (oq w (w.2.2.2.1 ++ gJ w.2.2.1 id l)).2.2.2.2.1, (oq w (w.2.2.2.1 ++ gJ w.2.2.1 id l)).2.2.2.2.2.1, ()) := by
 have inner : ∀ (fl : List sH) (i : Nat) (hi : i < l.length), fl.length ≤ 2147483648 → aE eW (w.1, w.2.1, w.2.2.1, w.2.2.2.1, w.2.2.2.2.1, w.2.2.2.2.2.1, id, l, fl, ((i : Nat) : Int), (0 : Int), ()) = some (.inl (w.1, w.2.1, w.2.2.1, w.2.2.2.1, w.2.2.2.2.1, w.2.2.2.2.2.1, id, l, fl ++ ik w.2.2.1 id l[i], ((i : Nat) : Int), ())) := by
   intro fl i hi hf; have l1 := ee (round := eW) (e := .inl (w.1, w.2.1, w.2.2.1, w.2.2.2.1, w.2.2.2.2.1, w.2.2.2.2.2.1, id, l, fl ++ ik w.2.2.1 id l[i], ((i : Nat) : Int), ())) w.2.2.1.length (fun k => (w.1, w.2.1, w.2.2.1, w.2.2.2.1, w.2.2.2.2.1, w.2.2.2.2.2.1, id, l, fl ++ ik (w.2.2.1.take k) id l[i], ((i : Nat) : Int), ((k : Nat) : Int), ())) (by
     simp only [eW, m9, aF, cond_false, List.take_length]) (fun k hk => by
     have hb : Nat.ble (((fl ++ ik (w.2.2.1.take k) id l[i]).length + 1) * 120) lim = true := aH (by
       have := zo (w.2.2.1.take k) id l[i]; rw [List.length_take] at this; rw [List.length_append]; unfold lim; omega)
     rw [DU w.2.2.1 id l[i] hk]; simp only [eW, m9, az hk, aq, cond_true, aC, List.getElem?_eq_getElem hk, List.getElem?_eq_getElem hi, Option.bind_some, aJ (show k < 4611686018427387904 by omega), hb]
     cases decide ((w.2.2.1[k]).1 = id)
     · simp only [Bool.not_false, cond_true, List.append_assoc]
     · simp only [Bool.not_true, cond_false, List.append_nil])
   have l1 : aE eW (w.1, w.2.1, w.2.2.1, w.2.2.2.1, w.2.2.2.2.1, w.2.2.2.2.2.1, id, l, fl ++ ik (w.2.2.1.take 0) id l[i], ((i : Nat) : Int), (0 : Int), ()) = _ := l1
   rwa [show ik (w.2.2.1.take 0) id l[i] = [] from rfl, List.append_nil] at l1
 have l2 := ee (round := fJ) (e := .inl (w.1, w.2.1, w.2.2.1, w.2.2.2.1, w.2.2.2.2.1, w.2.2.2.2.2.1, w.2.2.2.1 ++ gJ w.2.2.1 id l, ())) l.length (fun k => (w.1, w.2.1, w.2.2.1, w.2.2.2.1, w.2.2.2.2.1, w.2.2.2.2.2.1, id, l, w.2.2.2.1 ++ gJ w.2.2.1 id (l.take k), ((k : Nat) : Int), ())) (by
   simp only [fJ, na, aF, cond_false, List.take_length]) (fun k hk => by
   have hl := uN w.2.2.1 id 5 h1 (l.take k); rw [List.length_take] at hl; rw [HG w.2.2.1 id l hk]; simp only [fJ, na, az hk, cond_true, inner _ k hk (show (w.2.2.2.1 ++ gJ w.2.2.1 id (l.take k)).length ≤ 2147483648 by rw [List.length_append]; omega), cj, Option.bind_some, aJ (show k < 4611686018427387904 by omega), List.append_assoc])
 have l2 : aE fJ (w.1, w.2.1, w.2.2.1, w.2.2.2.1, w.2.2.2.2.1, w.2.2.2.2.2.1, id, l, w.2.2.2.1 ++ gJ w.2.2.1 id (l.take 0), (0 : Int), ()) = _ := l2; rw [show gJ w.2.2.1 id (l.take 0) = [] from rfl, List.append_nil] at l2; unfold jx; simp only [aH (show (0 + w.2.2.2.1.length) * 120 ≤ lim by unfold lim; omega), cond_true, List.nil_append, l2, cj, Option.bind_some]; rfl
theorem yu (a b : Nat) : Int.tmod ((a : Nat) : Int) ((b : Nat) : Int) = ((a % b : Nat) : Int) := rfl
noncomputable def nQ (c : Int) (xs : dy) (id : Int) : Int := match bN c xs id with | some x => x.1 | none => 0
theorem Ow (c : Int) (xs : dy) (id : Int) (h : xs.length ≤ 1048576) : bN c xs id = some (nQ c xs id, ()) := by
 have key : ∃ b, bN c xs id = some (b, ()) := by
   unfold bN; rw [(qg c xs h).1]
   cases Bo c xs
   · exact ⟨0, rfl⟩
   obtain ⟨e, he, _⟩ := ef (round := dK) (x := (id, c, xs, ((0 : Nat) : Int), ())) xs.length (fun k x => x = (id, c, xs, ((k : Nat) : Int), ())) (fun _ => True) (by
       rintro x rfl
       exact ⟨.inl (), by simp only [dK, lj, aF, cond_false], trivial⟩) (by
       rintro k x hk rfl
       have hm : (k + 1) % xs.length < xs.length := Nat.mod_lt _ (by omega); simp only [dK, lj, az hk, aq, cond_true, aC, List.getElem?_eq_getElem hk, Option.bind_some, aJ (show k < 4611686018427387904 by omega), yu, List.getElem?_eq_getElem hm, ai (show ¬ ((List.length xs : Nat) : Int) = 0 by omega), cond_false]
       cases decide (xs[k].1 = id)
       · exact .inr ⟨_, rfl, rfl⟩
       · exact .inl ⟨_, rfl, trivial⟩) rfl
   have he : aE dK (id, c, xs, (0 : Int), ()) = some e := he; simp only [Option.bind_some, Bool.not_true, cond_false, he]
   cases e
   · exact ⟨_, rfl⟩
   · exact ⟨_, rfl⟩
 obtain ⟨b, h1⟩ := key; have : nQ c xs id = b := by unfold nQ; rw [h1]
 rw [this]; exact h1
def ku (to_ : Int) (t : kt) : sH := (to_, true, t.1, t.2.1, t.2.2.1, t.2.2.2.1, t.2.2.2.2.1, t.2.2.2.2.2.1, 0, 0, 0, ByteArray.empty, ())
theorem CU (w : cG) (id : Int) (t : kt) (h1 : w.2.1.length ≤ 1048576) (h2 : w.2.2.2.1.length ≤ 2147483648) (h3 : t.2.2.2.2.2.1.length ≤ 1048576) : dG w.1 w.2.1 w.2.2.1 w.2.2.2.1 w.2.2.2.2.1 w.2.2.2.2.2.1 id t.1 t.2.1 t.2.2.1 t.2.2.2.1 t.2.2.2.2.1 t.2.2.2.2.2.1 = some ((oq w (w.2.2.2.1 ++ [ku (nQ w.1 w.2.1 id) t])).1, (oq w (w.2.2.2.1 ++ [ku (nQ w.1 w.2.1 id) t])).2.1, (oq w (w.2.2.2.1 ++ [ku (nQ w.1 w.2.1 id) t])).2.2.1, (oq w (w.2.2.2.1 ++ [ku (nQ w.1 w.2.1 id) t])).2.2.2.1, (oq w (w.2.2.2.1 ++ [ku (nQ w.1 w.2.1 id) t])).2.2.2.2.1, (oq w (w.2.2.2.1 ++ [ku (nQ w.1 w.2.1 id) t])).2.2.2.2.2.1, ()) := by
 unfold dG; simp only [aH (show (0 + w.2.2.2.1.length) * 120 ≤ lim by unfold lim; omega), Ow w.1 w.2.1 id h1, (ig t.1 t.2.1 t.2.2.1 t.2.2.2.1 t.2.2.2.2.1 t.2.2.2.2.2.1 h3).1, Option.bind_some, cond_true, List.nil_append, aH (show (w.2.2.2.1.length + 1) * 120 ≤ lim by unfold lim; omega)]; rfl
def MZ (m : ew) : aM := m.2.2.2.1.filter fun x => decide (x.2.1 = m.1)
def mQ (m : ew) : kt := (m.2.2.2.2.2.2.2.2.2.2.1, m.2.2.2.2.2.2.2.2.2.2.2.1, m.2.2.2.2.2.2.2.2.2.2.2.2.1, m.2.2.2.2.2.2.2.2.2.2.2.2.2.1, m.2.2.2.2.2.2.2.2.2.2.2.2.2.2.1, m.2.2.2.2.2.2.2.2.2.2.2.2.2.2.2.1, ())
noncomputable def uo (w : cG) (m : ew) : cG := oq w (w.2.2.2.1 ++ [ku (nQ w.1 w.2.1 m.1) (mQ m)] ++ gJ w.2.2.1 m.1 (MZ m))
theorem JM (w : cG) {k : Nat} (hk : k < w.2.2.1.length) (h1 : w.2.2.1.length ≤ 5) (h2 : w.2.2.2.1.length ≤ 1073741823) (h3 : w.2.1.length ≤ 1048576) (h4 : (w.2.2.1[k]).2.2.2.1.length ≤ 1048576) (h5 : (w.2.2.1[k]).2.2.2.2.2.2.2.2.2.2.2.2.2.2.2.1.length ≤ 1048576) :
   iI w.1 w.2.1 w.2.2.1 w.2.2.2.1 w.2.2.2.2.1 w.2.2.2.2.2.1 ((k : Nat) : Int) = (bif pG (mQ w.2.2.1[k]) then some ((1 : Int), w.1, w.2.1, w.2.2.1, w.2.2.2.1, w.2.2.2.2.1, w.2.2.2.2.2.1, ()) else some ((0 : Int), (uo w w.2.2.1[k]).1, (uo w w.2.2.1[k]).2.1, (uo w w.2.2.1[k]).2.2.1, (uo w w.2.2.1[k]).2.2.2.1, (uo w w.2.2.1[k]).2.2.2.2.1, (uo w w.2.2.1[k]).2.2.2.2.2.1, ())) := by
 generalize hm : w.2.2.1[k] = m at *; have l1 := ee (round := fA) (e := .inl (w.1, w.2.1, w.2.2.1, w.2.2.2.1, w.2.2.2.2.1, w.2.2.2.2.2.1, m.1, m.2.1, m.2.2.1, m.2.2.2.1, m.2.2.2.2.1, m.2.2.2.2.2.1, m.2.2.2.2.2.2.1, m.2.2.2.2.2.2.2.1, m.2.2.2.2.2.2.2.2.1, m.2.2.2.2.2.2.2.2.2.1, m.2.2.2.2.2.2.2.2.2.2.1, m.2.2.2.2.2.2.2.2.2.2.2.1, m.2.2.2.2.2.2.2.2.2.2.2.2.1, m.2.2.2.2.2.2.2.2.2.2.2.2.2.1, m.2.2.2.2.2.2.2.2.2.2.2.2.2.2.1, m.2.2.2.2.2.2.2.2.2.2.2.2.2.2.2.1, MZ m, ())) m.2.2.2.1.length (fun i => (w.1, w.2.1, w.2.2.1, w.2.2.2.1, w.2.2.2.2.1, w.2.2.2.2.2.1, m.1, m.2.1, m.2.2.1, m.2.2.2.1, m.2.2.2.2.1, m.2.2.2.2.2.1, m.2.2.2.2.2.2.1, m.2.2.2.2.2.2.2.1, m.2.2.2.2.2.2.2.2.1, m.2.2.2.2.2.2.2.2.2.1, m.2.2.2.2.2.2.2.2.2.2.1, m.2.2.2.2.2.2.2.2.2.2.2.1, m.2.2.2.2.2.2.2.2.2.2.2.2.1, m.2.2.2.2.2.2.2.2.2.2.2.2.2.1, m.2.2.2.2.2.2.2.2.2.2.2.2.2.2.1, m.2.2.2.2.2.2.2.2.2.2.2.2.2.2.2.1, (m.2.2.2.1.take i).filter (fun x => decide (x.2.1 = m.1)), ((i : Nat) : Int), ())) (by
   simp only [fA, lX, aF, cond_false, List.take_length]; rfl) (fun i hi => by
   have hb : Nat.ble ((((m.2.2.2.1.take i).filter (fun x => decide (x.2.1 = m.1))).length + 1) * 40) lim = true := aH (by
     have := List.length_filter_le (fun x : dx => decide (x.2.1 = m.1)) (m.2.2.2.1.take i); rw [List.length_take] at this; unfold lim; omega)
   rw [List.take_succ_eq_append_getElem hi, List.filter_append, List.filter_cons]; simp only [fA, lX, az hi, aq, cond_true, aC, List.getElem?_eq_getElem hi, Option.bind_some, aJ (show i < 4611686018427387904 by omega), hb]
   by_cases e : (m.2.2.2.1[i]).2.1 = m.1
   · rw [ah e]; rfl
   · rw [ai e]; simp only [cond_false]; rw [if_neg (by decide)]; simp)
 have l1 : aE fA (w.1, w.2.1, w.2.2.1, w.2.2.2.1, w.2.2.2.2.1, w.2.2.2.2.2.1, m.1, m.2.1, m.2.2.1, m.2.2.2.1, m.2.2.2.2.1, m.2.2.2.2.2.1, m.2.2.2.2.2.2.1, m.2.2.2.2.2.2.2.1, m.2.2.2.2.2.2.2.2.1, m.2.2.2.2.2.2.2.2.2.1, m.2.2.2.2.2.2.2.2.2.2.1, m.2.2.2.2.2.2.2.2.2.2.2.1, m.2.2.2.2.2.2.2.2.2.2.2.2.1, m.2.2.2.2.2.2.2.2.2.2.2.2.2.1, m.2.2.2.2.2.2.2.2.2.2.2.2.2.2.1, m.2.2.2.2.2.2.2.2.2.2.2.2.2.2.2.1, [], (0 : Int), ()) = _ := l1; unfold iI; have hb : dF m.2.2.2.2.2.2.2.2.2.2.1 m.2.2.2.2.2.2.2.2.2.2.2.1 m.2.2.2.2.2.2.2.2.2.2.2.2.1 m.2.2.2.2.2.2.2.2.2.2.2.2.2.1 m.2.2.2.2.2.2.2.2.2.2.2.2.2.2.1 m.2.2.2.2.2.2.2.2.2.2.2.2.2.2.2.1 = some (pG (mQ m), ()) := (ui (mQ m)).1; simp only [aq, cond_true, aC, List.getElem?_eq_getElem hk, hm, Option.bind_some, hb]
 cases pG (mQ m)
 · have t1 : dG w.1 w.2.1 w.2.2.1 w.2.2.2.1 w.2.2.2.2.1 w.2.2.2.2.2.1 m.1 m.2.2.2.2.2.2.2.2.2.2.1 m.2.2.2.2.2.2.2.2.2.2.2.1 m.2.2.2.2.2.2.2.2.2.2.2.2.1 m.2.2.2.2.2.2.2.2.2.2.2.2.2.1 m.2.2.2.2.2.2.2.2.2.2.2.2.2.2.1 m.2.2.2.2.2.2.2.2.2.2.2.2.2.2.2.1 = _ := CU w m.1 (mQ m) h3 (by omega) h5; have t2 := FH (oq w (w.2.2.2.1 ++ [ku (nQ w.1 w.2.1 m.1) (mQ m)])) m.1 (MZ m) h1 (by show (w.2.2.2.1 ++ [_]).length ≤ _; rw [List.length_append, List.length_singleton]; omega) (Nat.le_trans (List.length_filter_le _ _) h4); simp only [cond_false, l1, cj, t1, Option.bind_some, t2]; rfl
 · rfl
structure M0 (f : sH) : Prop where
 tok : f.2.1 = true → Bp (f.2.2.1, f.2.2.2.1, f.2.2.2.2.1, f.2.2.2.2.2.1, f.2.2.2.2.2.2.1, f.2.2.2.2.2.2.2.1, ())
 item : f.2.1 = false → jX (f.2.2.2.2.2.2.2.2.1, f.2.2.2.2.2.2.2.2.2.1, f.2.2.2.2.2.2.2.2.2.2.1, f.2.2.2.2.2.2.2.2.2.2.2.1, ())
 FE : f.2.2.2.2.2.2.2.1.length ≤ 20
structure eK (n : Nat) (c : Int) (ms : dy) (w : cG) : Prop where
 ring : pF c ms
 self : w.1 = c ∧ w.2.1 = ms
 len : w.2.2.1.length = ms.length
 ids : ∀ k (hk : k < w.2.2.1.length) (hm : k < ms.length), (w.2.2.1[k]).1 = ms[k].1
 B6 : ∀ m ∈ w.2.2.1, sE m ∧ m.2.1 = c ∧ m.2.2.1 = ms
 zx : ∀ f ∈ w.2.2.2.1, M0 f
 FE : w.2.2.2.1.length ≤ 400 * (n + 1)
 heard : w.2.2.2.2.1.length = ms.length
 list : ∀ h ∈ w.2.2.2.2.1, h.1.length ≤ 60 * n
 said : (∀ x ∈ w.2.2.2.2.2.1, jX x) ∧ w.2.2.2.2.2.1.length ≤ 63 * n
theorem eK.up {n n' : Nat} {c : Int} {ms : dy} {w : cG} (h : eK n c ms w) (hn : n ≤ n') : eK n' c ms w :=
 { h with FE := by have := h.FE; omega, list := fun x hx => by have := h.list x hx; omega, said := ⟨h.said.1, by have := h.said.2; omega⟩ }
theorem eK.pW {n : Nat} {c : Int} {ms : dy} {w : cG} (h : eK n c ms w) {k : Nat} (hk : k < w.2.2.1.length) {m : ew} (hm : sE m) (h1 : m.1 = (w.2.2.1[k]).1) (h2 : m.2.1 = (w.2.2.1[k]).2.1) (h3 : m.2.2.1 = (w.2.2.1[k]).2.2.1) : eK n c ms (xQ w k m) :=
 { h with
   len := by show (w.2.2.1.set k m).length = _; rw [List.length_set]; exact h.len
   ids := fun j hj zY => by
     have hj : j < (w.2.2.1.set k m).length := hj; show ((w.2.2.1.set k m)[j]).1 = _; rw [List.getElem_set]; rw [List.length_set] at hj
     split
     · rename_i e; subst e; rw [h1]; exact h.ids k hk zY
     · exact h.ids j hj zY
   B6 := fun x hx => by
     have hx : x ∈ w.2.2.1.set k m := hx; rcases List.mem_or_eq_of_mem_set hx with hx | rfl
     · exact h.B6 x hx
     · have := h.B6 _ (List.getElem_mem hk); exact ⟨hm, h2.trans this.2.1, h3.trans this.2.2⟩ }
theorem eK.DV {n : Nat} {c : Int} {ms : dy} {w : cG} (h : eK n c ms w) {l : List sH} (h1 : ∀ f ∈ l, M0 f) (h2 : l.length ≤ 400 * (n + 1)) : eK n c ms (oq w l) := { h with zx := h1, FE := h2 }
theorem Bz {a : Int} {t : kt} (h : Bp t) : M0 (ku a t) := ⟨fun _ => h, fun e => (by cases e), h.2.2.2.2.2.1⟩
theorem CW {ms : List ew} {id : Int} {l : aM} (h : ∀ x ∈ l, jX x) : ∀ f ∈ gJ ms id l, M0 f := by
 intro f hf; obtain ⟨m, _, x, hx, _, rfl⟩ := CT hf; exact ⟨fun e => (by cases e), fun _ => h x hx, Nat.zero_le _⟩
theorem eK.HH {n : Nat} {c : Int} {ms : dy} {w : cG} (h : eK n c ms w) : w.2.2.1.length ≤ 5 ∧ w.2.1.length ≤ 5 ∧ ms.length ≤ 5 := by
 have := h.ring.2.1.2; have := h.len; rw [h.self.2]; omega
theorem HI {m : ew} (hm : sE m) {x : dx} (hx : jX x) : sE (oG m (kP m.2.2.2.1 x)) := by
 have hi := (cA _ hm.items).1; have hp := Br hm.items hx; have hi2 := (cA _ hp).1; have ha : cF m.2.2.2.1 ≤ cF (kP m.2.2.2.1 x) := FA (by omega) (by omega) fun r hr => ⟨r, yt hr, rfl⟩
 exact { hm with
   items := hp
   line := ⟨hm.line.1, by have := hm.line.2; show m.2.2.2.2.2.2.2.2.1 ≤ ((cF (kP m.2.2.2.1 x) : Nat) : Int); omega⟩
   heard := ⟨hm.heard.1, by have := hm.heard.2; show m.2.2.2.2.2.2.2.2.2.1 ≤ ((cF (kP m.2.2.2.1 x) : Nat) : Int); omega⟩ }
theorem JN {m : ew} (hm : sE m) {x : dx} (hx : jX x) : Bs m x = oG m (kP m.2.2.2.1 x) := by
 have hi := (cA _ hm.items).1; unfold Bs MN; rw [(sF m (Nat.le_trans hm.small (by decide))).2.2.2 hm, (ug _ (by omega)).2.2.2 hm.items, (zG x).2.2.2 hx]; rfl
theorem FI {ms : dy} (h : Hv ms ms.length) {i j : Nat} (hj : j < ms.length) (NM : i < j) : (ms[i]'(by omega)).1 < ms[j].1 := by
 have key : ∀ (d i : Nat) (hi : i + d + 1 < ms.length), ms[i].1 < ms[i + d + 1].1 := by
   intro d
   induction d with
   | zero => intro i hi; exact (h (i + 1) hi hi).2 (by omega)
   | succ d ih =>
     intro i hi; have h1 := ih i (by omega); have h2 := (h (i + (d + 1) + 1) hi hi).2 (by omega); have e : i + (d + 1) + 1 - 1 = i + d + 1 := by omega
     simp only [e] at h2; omega
 have := key (j - i - 1) i (by omega); simpa [show i + (j - i - 1) + 1 = j by omega] using this
theorem Iy {ms : dy} (h : Hv ms ms.length) {i j : Nat} (hi : i < ms.length) (hj : j < ms.length) (e : ms[i].1 = ms[j].1) : i = j := by
 by_cases h1 : i < j
 · have := FI h hj h1; omega
 by_cases h2 : j < i
 · have := FI h hi h2; omega
 omega
theorem M1 {c : Int} {ms : dy} (hr : pF c ms) {k : Nat} (hk : k < ms.length) (hm : (k + 1) % ms.length < ms.length) : nQ c ms ms[k].1 = ms[(k + 1) % ms.length].1 := by
 have hl := hr.2.1.2; have h := (qg c ms (by omega)).1; rw [(qg c ms (by omega)).2.2.2 hr] at h; obtain ⟨e, he, hq⟩ := ef (round := dK) (x := (ms[k].1, c, ms, ((0 : Nat) : Int), ())) ms.length (fun j x => x = (ms[k].1, c, ms, ((j : Nat) : Int), ()) ∧ j ≤ k) (fun e => e = .inr (ms[(k + 1) % ms.length].1, ())) (by
     rintro x ⟨_, g⟩
     omega) (by
     rintro j x hj ⟨rfl, g⟩
     simp only [dK, lj, az hj, aq, cond_true, aC, List.getElem?_eq_getElem hj, Option.bind_some, aJ (show j < 4611686018427387904 by omega), yu, ai (show ¬ ((List.length ms : Nat) : Int) = 0 by omega), cond_false]
     by_cases e : ms[j].1 = ms[k].1
     · have := Iy hr.2.2 hj hk e; subst this; rw [ah e, List.getElem?_eq_getElem hm]; exact .inl ⟨_, rfl, rfl⟩
     · rw [ai e]; refine .inr ⟨_, rfl, rfl, ?_⟩
       by_cases e2 : j = k
       · subst e2; exact absurd rfl e
       · omega) ⟨rfl, Nat.zero_le _⟩
 have he : aE dK (ms[k].1, c, ms, (0 : Int), ()) = some e := he; subst hq; unfold nQ bN; rw [h]; simp only [Option.bind_some, Bool.not_true, cond_false, he, cj]
structure B7 (R : Nat) (S : Int) (ms : dy) (f : sH) : Prop where
 tok : f.2.1 = true → ∃ r : Nat, 1 ≤ r ∧ r ≤ R ∧ f.2.2.2.1 = ((r : Nat) : Int) ∧ (∃ x, ms[(r - 1) % ms.length]? = some x ∧ f.1 = x.1) ∧ (r = R → f.2.2.2.2.1 = S)
 item : f.2.1 = false → f.2.2.2.2.2.2.2.2.1 ≤ S
structure uq (R : Nat) (S : Int) (len k : Nat) (m : ew) : Prop where
 items : ∀ x ∈ m.2.2.2.1, x.1 ≤ S
 last : ∃ q : Nat, m.2.2.2.2.2.2.1 = ((q : Nat) : Int) ∧ q < R ∧ (∀ r, 1 ≤ r → r < R → (r - 1) % len = k → r ≤ q) ∧ (Blank (mQ m) ∨ (1 ≤ q ∧ (q - 1) % len = k ∧ (mQ m).2.1 = ((q + 1 : Nat) : Int) ∧ (q + 1 = R → (mQ m).2.2.1 = S)))
structure nL (R : Nat) (S : Int) (ms : dy) (w : cG) : Prop where
 zx : ∀ f ∈ w.2.2.2.1, B7 R S ms f
 pW : ∀ k (hk : k < w.2.2.1.length), uq R S ms.length k w.2.2.1[k]
 said : ∀ x ∈ w.2.2.2.2.2.1, x.1 ≤ S
theorem nL.M3 {R : Nat} {S : Int} {ms : dy} {w : cG} (h : nL R S ms w) {k : Nat} (hk : k < w.2.2.1.length) {m : ew} (hm : uq R S ms.length k m) : nL R S ms (xQ w k m) :=
 { zx := h.zx
   said := h.said
   pW := fun j hj => by
     have hj : j < (w.2.2.1.set k m).length := hj; show uq R S ms.length j (w.2.2.1.set k m)[j]; rw [List.getElem_set]; rw [List.length_set] at hj
     split
     · rename_i e; subst e; exact hm
     · exact h.pW j hj }
theorem nL.DV {R : Nat} {S : Int} {ms : dy} {w : cG} (h : nL R S ms w) {l : List sH} (hl : ∀ f ∈ l, B7 R S ms f) : nL R S ms (oq w l) := { zx := hl, pW := h.pW, said := h.said }
theorem uq.same {R : Nat} {S : Int} {len k : Nat} {m m' : ew} (h : uq R S len k m) (h1 : m'.2.2.2.1 = m.2.2.2.1) (h2 : m'.2.2.2.2.2.2.1 = m.2.2.2.2.2.2.1) (h3 : mQ m' = mQ m) : uq R S len k m' := ⟨h1 ▸ h.items, by rw [h2, h3]; exact h.last⟩
theorem PS {R : Nat} {S : Int} {ms : dy} {mt : List ew} {id : Int} {l : aM} (h : ∀ x ∈ l, x.1 ≤ S) : ∀ f ∈ gJ mt id l, B7 R S ms f := by
 intro f hf; obtain ⟨m, _, x, hx, _, rfl⟩ := CT hf; exact ⟨fun e => (by cases e), fun _ => h x hx⟩
theorem M4 {n q k : Nat} (h1 : 1 ≤ q) (h : (q - 1) % n = k) : (q + 1 - 1) % n = (k + 1) % n := by
 have : q = (q - 1) + 1 := by omega
 rw [Nat.add_sub_cancel, ← h, Nat.mod_add_mod, ← this]
theorem Xa {R : Nat} {S : Int} {c : Int} {ms : dy} (hr : pF c ms) {k : Nat} (hk : k < ms.length) {t : kt} {q : Nat} (h1 : 1 ≤ q) (hq : (q - 1) % ms.length = k) (hR : q + 1 ≤ R) (h2 : t.2.1 = ((q + 1 : Nat) : Int)) (h3 : q + 1 = R → t.2.2.1 = S) : B7 R S ms (ku (nQ c ms ms[k].1) t) := by
 have hm : (k + 1) % ms.length < ms.length := Nat.mod_lt _ (by omega); refine ⟨fun _ => ⟨q + 1, by omega, hR, h2, ⟨ms[(k + 1) % ms.length], ?_, ?_⟩, h3⟩, fun e => (by cases e)⟩
 · rw [M4 h1 hq]; exact List.getElem?_eq_getElem hm
 · exact M1 hr hk hm
theorem JO {R : Nat} {S : Int} {n : Nat} {c : Int} {ms : dy} {w : cG} (h : eK n c ms w) (hR : nL R S ms w) {k : Nat} (hk : k < w.2.2.1.length) (hb : ¬ Blank (mQ w.2.2.1[k])) : nL R S ms (uo w w.2.2.1[k]) := by
 have q8 : k < ms.length := by rw [← h.len]; exact hk
 obtain ⟨q, q1, q2, q3, q4⟩ := (hR.pW k hk).last; refine hR.DV fun f hf => ?_
 rcases List.mem_append.1 hf with hf | hf
 · rcases List.mem_append.1 hf with hf | hf
   · exact hR.zx f hf
   · rw [List.mem_singleton] at hf; subst hf; rcases q4 with q4 | ⟨g1, g2, g3, g4⟩
     · exact absurd q4 hb
     · rw [h.self.1, h.self.2, h.ids k hk q8]; exact Xa h.ring q8 g1 g2 (by omega) g3 g4
 · exact PS (fun x hx => (hR.pW k hk).items x (List.mem_filter.1 hx).1) f hf
theorem JP {R : Nat} {S : Int} {len k : Nat} {m : ew} (h : uq R S len k m) {x : dx} (hx : x.1 ≤ S) : uq R S len k (oG m (kP m.2.2.2.1 x)) :=
 ⟨fun y hy => by
   have hy : y ∈ kP m.2.2.2.1 x := hy; rcases uk hy with rfl | hy
   · exact hx
   · exact h.items y hy, h.last⟩
theorem JQ {R : Nat} {S : Int} {n : Nat} {c : Int} {ms : dy} {w : cG} (h : eK n c ms w) (hR : nL R S ms w) {f : sH} (hf : B7 R S ms f) (ht : f.2.1 = true) {k : Nat} (hk : k < w.2.2.1.length) (yS : (w.2.2.1[k]).1 = f.1) (hr : (w.2.2.1[k]).2.2.2.2.2.2.1 < f.2.2.2.1) : 1 ≤ R ∧ (R - 1) % ms.length = k ∧ f.2.2.2.1 = ((R : Nat) : Int) ∧ f.2.2.2.2.1 = S := by
 have q8 : k < ms.length := by rw [← h.len]; exact hk
 obtain ⟨r, r1, r2, r3, ⟨x, x1, x2⟩, r4⟩ := hf.tok ht; obtain ⟨q, q1, q2, q3, _⟩ := (hR.pW k hk).last; have hm : (r - 1) % ms.length < ms.length := Nat.mod_lt _ (by omega); rw [List.getElem?_eq_getElem hm] at x1; injection x1 with x1; have hi : (r - 1) % ms.length = k := Iy h.ring.2.2 hm q8 (by rw [x1, ← x2, ← yS, h.ids k hk q8])
 by_cases e : r < R
 · have := q3 r r1 e hi; omega
 · have : r = R := by omega
   subst this; exact ⟨r1, hi, r3, r4 rfl⟩
def DW (ms : dy) (w w' : cG) : Prop := ∀ R S, nL R S ms w → ∃ R' S', nL R' S' ms w'
theorem B7.up {R : Nat} {S : Int} {ms : dy} {f : sH} (h : B7 R S ms f) {j : Nat} : B7 (R + 1) (S + ((j : Nat) : Int)) ms f :=
 ⟨fun e => by
   obtain ⟨r, r1, r2, r3, r4, _⟩ := h.tok e; exact ⟨r, r1, by omega, r3, r4, fun h => by omega⟩, fun e => by have := h.item e; omega⟩
end Go.TM
