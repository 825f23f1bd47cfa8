/- What a member does that holds a token. -/
import Derived.Test.YtlgnmloddedbaaaGreatBPHoldL
set_option linter.unusedSimpArgs false
set_option linter.unusedVariables false
namespace Go.TM
open Go
theorem oE.id {m : cK} (h : oE m) : 1 ≤ m.1 ∧ m.1 ≤ 5 := by
 obtain ⟨k, hk, e⟩ := List.mem_iff_getElem.1 h.mem; have := (h.ring.2.2 k hk hk).1; rw [e] at this; exact this
theorem JL {list : aK} {xs : cP} {ms : List Int} {c c2 : Int} (hx : tP c xs xs.length) (hc : c ≤ c2) (hm : ∀ s ∈ ms, 1 ≤ s ∧ s ≤ c2) : tP c2 (aO (jt list xs ms)) (aO (jt list xs ms)).length := by
 have hp : (jt list xs ms).Pairwise (· < ·) := List.Pairwise.sublist (List.take_sublist _ _) (List.Pairwise.filter _ (AK 60)); have x4 : ∀ s ∈ jt list xs ms, 1 ≤ s ∧ s ≤ c2 := by
   intro s hs; have h1 := List.mem_of_mem_take hs; have h2 := (List.mem_filter.1 h1).2; unfold fZ at h2; rw [Bool.or_eq_true, Bool.and_eq_true, decide_eq_true_eq, decide_eq_true_eq] at h2; rcases h2 with ⟨_, h2⟩ | h2
   · unfold aY at h2; obtain ⟨r, hr, rfl⟩ := List.mem_map.1 h2; obtain ⟨k, hk, rfl⟩ := List.mem_iff_getElem.1 hr; have := hx k hk hk; exact ⟨this.1, by omega⟩
   · exact hm s h2
 intro k hk _; have AU : k < (jt list xs ms).length := by rwa [bY] at hk
 have e : ∀ j (hj : j < (aO (jt list xs ms)).length) (hj' : j < (jt list xs ms).length), (aO (jt list xs ms))[j].1 = (jt list xs ms)[j] := by intro j hj hj'; simp [aO]
 rw [e k hk AU]; refine ⟨(x4 _ (List.getElem_mem AU)).1, (x4 _ (List.getElem_mem AU)).2, fun h0 => ?_⟩; rw [e (k - 1) (by omega) (by omega)]; exact List.pairwise_iff_getElem.1 hp (k - 1) k (by omega) AU (by omega)
theorem ub.drop {l : cP} (h : ub l l.length) (k : Nat) : ub (l.drop k) (l.drop k).length := by
 intro j hj _; rw [List.getElem_drop]; rw [List.length_drop] at hj; exact h (k + j) (by omega) (by omega)
theorem iA.drop {l : List (ByteArray × Unit)} (h : iA l l.length) (k : Nat) : iA (l.drop k) (l.drop k).length := by
 intro j hj _; rw [List.getElem_drop]; rw [List.length_drop] at hj; exact h (k + j) (by omega) (by omega)
structure Mn (m : cK) (t : jG) (n : cK) (said : aK) (k : Nat) (nx : jG) : Prop where
 vK : k ≤ 3 ∧ k ≤ m.2.2.2.2.2.1.length ∧ t.2.2.1 + ((k : Nat) : Int) ≤ 60
 said : said = rb t m.2.2.2.1 ++ de t.2.2.1 m.1 m.2.2.2.2.1 m.2.2.2.2.2.1 k
 id : n.1 = m.1 ∧ n.2.1 = m.2.1 ∧ n.2.2.1 = m.2.2.1
 items : n.2.2.2.1 = bq m.2.2.2.1 (de t.2.2.1 m.1 m.2.2.2.2.1 m.2.2.2.2.2.1 k)
 words : n.2.2.2.2.1 = m.2.2.2.2.1.drop k ∧ n.2.2.2.2.2.1 = m.2.2.2.2.2.1.drop k
 round : n.2.2.2.2.2.2.1 = t.2.1 ∧ n.2.2.2.2.2.2.2.1 = t.2.2.2.1 ∧ m.2.2.2.2.2.2.2.2.1 ≤ n.2.2.2.2.2.2.2.2.1 ∧ n.2.2.2.2.2.2.2.2.2.1 = m.2.2.2.2.2.2.2.2.2.1
 last : (n.2.2.2.2.2.2.2.2.2.2.1, n.2.2.2.2.2.2.2.2.2.2.2.1, n.2.2.2.2.2.2.2.2.2.2.2.2.1, n.2.2.2.2.2.2.2.2.2.2.2.2.2.1, n.2.2.2.2.2.2.2.2.2.2.2.2.2.2.1, n.2.2.2.2.2.2.2.2.2.2.2.2.2.2.2.1, ()) = nx
 nq : oE n
 tq : yX nx
 next : nx.1 = t.1 ∧ nx.2.1 = t.2.1 + 1 ∧ nx.2.2.1 = t.2.2.1 + ((k : Nat) : Int)
 aff : k = min 3 m.2.2.2.2.2.1.length ∨ t.2.2.1 + ((k : Nat) : Int) = 60
 marks : nx.2.2.2.1 = AI (t.2.2.1 + ((k : Nat) : Int)) (if t.2.2.2.1 = t.2.2.1 ∧ t.2.2.2.2.1 = 0 then t.2.2.1 + ((k : Nat) : Int) else t.2.2.2.1) t.2.2.2.2.1 m.1 ((dw n.2.2.2.1 : Nat) : Int) ∧ nx.2.2.2.2.1 = AJ (t.2.2.1 + ((k : Nat) : Int)) (if t.2.2.2.1 = t.2.2.1 ∧ t.2.2.2.2.1 = 0 then t.2.2.1 + ((k : Nat) : Int) else t.2.2.2.1) t.2.2.2.2.1 m.1 ((dw n.2.2.2.1 : Nat) : Int)
 line : n.2.2.2.2.2.2.2.2.1 = m.2.2.2.2.2.2.2.2.1 ∨ (n.2.2.2.2.2.2.2.2.1 ≤ m.2.2.2.2.2.2.2.1 ∧ n.2.2.2.2.2.2.2.2.1 ≤ t.2.2.2.1 ∧ n.2.2.2.2.2.2.2.2.1 ≤ ((dw n.2.2.2.1 : Nat) : Int))
 Zk : ∀ s ∈ aY nx.2.2.2.2.2.1, hasB n.2.2.2.1 s = false
theorem KC (m : cK) (t : jG) (hm : oE m) (ht : yX t) (hc : t.1 = m.2.1) (hr1 : m.2.2.2.2.2.2.1 < t.2.1) (hr2 : t.2.1 < 1000000000) :
   ∃ (n : cK) (said : aK) (k : Nat) (nx : jG), Mn m t n said k nx ∧ jB m.1 m.2.1 m.2.2.1 m.2.2.2.1 m.2.2.2.2.1 m.2.2.2.2.2.1 m.2.2.2.2.2.2.1 m.2.2.2.2.2.2.2.1 m.2.2.2.2.2.2.2.2.1 m.2.2.2.2.2.2.2.2.2.1 m.2.2.2.2.2.2.2.2.2.2.1 m.2.2.2.2.2.2.2.2.2.2.2.1 m.2.2.2.2.2.2.2.2.2.2.2.2.1 m.2.2.2.2.2.2.2.2.2.2.2.2.2.1 m.2.2.2.2.2.2.2.2.2.2.2.2.2.2.1 m.2.2.2.2.2.2.2.2.2.2.2.2.2.2.2.1 t.1 t.2.1 t.2.2.1 t.2.2.2.1 t.2.2.2.2.1 t.2.2.2.2.2.1 = some (n.1, n.2.1, n.2.2.1, n.2.2.2.1, n.2.2.2.2.1, n.2.2.2.2.2.1, n.2.2.2.2.2.2.1, n.2.2.2.2.2.2.2.1, n.2.2.2.2.2.2.2.2.1, n.2.2.2.2.2.2.2.2.2.1, n.2.2.2.2.2.2.2.2.2.2.1, n.2.2.2.2.2.2.2.2.2.2.2.1, n.2.2.2.2.2.2.2.2.2.2.2.2.1, n.2.2.2.2.2.2.2.2.2.2.2.2.2.1, n.2.2.2.2.2.2.2.2.2.2.2.2.2.2.1, n.2.2.2.2.2.2.2.2.2.2.2.2.2.2.2.1, said, ((k : Nat) : Int), nx.1, nx.2.1, nx.2.2.1, nx.2.2.2.1, nx.2.2.2.2.1, nx.2.2.2.2.2.1, true, ()) ∧ jz m.1 m.2.1 m.2.2.1 m.2.2.2.1 m.2.2.2.2.1 m.2.2.2.2.2.1 m.2.2.2.2.2.2.1 m.2.2.2.2.2.2.2.1 m.2.2.2.2.2.2.2.2.1 m.2.2.2.2.2.2.2.2.2.1 m.2.2.2.2.2.2.2.2.2.2.1 m.2.2.2.2.2.2.2.2.2.2.2.1 m.2.2.2.2.2.2.2.2.2.2.2.2.1 m.2.2.2.2.2.2.2.2.2.2.2.2.2.1 m.2.2.2.2.2.2.2.2.2.2.2.2.2.2.1 m.2.2.2.2.2.2.2.2.2.2.2.2.2.2.2.1 t.1 t.2.1 t.2.2.1 t.2.2.2.1 t.2.2.2.2.1 t.2.2.2.2.2.1 = some (n.1, n.2.1, n.2.2.1, n.2.2.2.1, n.2.2.2.2.1, n.2.2.2.2.2.1, n.2.2.2.2.2.2.1, n.2.2.2.2.2.2.2.1, n.2.2.2.2.2.2.2.2.1, n.2.2.2.2.2.2.2.2.2.1, n.2.2.2.2.2.2.2.2.2.2.1, n.2.2.2.2.2.2.2.2.2.2.2.1, n.2.2.2.2.2.2.2.2.2.2.2.2.1, n.2.2.2.2.2.2.2.2.2.2.2.2.2.1, n.2.2.2.2.2.2.2.2.2.2.2.2.2.2.1, n.2.2.2.2.2.2.2.2.2.2.2.2.2.2.2.1, said, nx.1, nx.2.1, nx.2.2.1, nx.2.2.2.1, nx.2.2.2.2.1, nx.2.2.2.2.2.1, true, ()) := by
 have rR := hm.id; have hW := hm.small; have hw := hW; unfold A3 at hw; have hwl : t.2.2.2.2.2.1.length ≤ 20 := ht.2.2.2.2.2.1; obtain ⟨k, t3, hN, q1, q2, q3, q4, q5, q6⟩ := JG t.1 t.2.1 t.2.2.1 t.2.2.2.1 t.2.2.2.2.1 t.2.2.2.2.2.1 m.1 m.2.2.2.2.1 m.2.2.2.2.2.1 (by omega) (by omega) rR ht; obtain ⟨o0, o1, o2, o3, o4, o5, o6, s1, s2, _⟩ := FI t.1 t.2.1 t.2.2.1 t.2.2.2.1 t.2.2.2.2.1 t.2.2.2.2.2.1 m.1 m.2.2.2.2.1 m.2.2.2.2.2.1 (by omega); rw [hN] at s2; injection s2 with s2; simp only [Prod.mk.injEq] at s2; obtain ⟨rfl, rfl, rfl, rfl, rfl, rfl, rfl, _⟩ := s2; have hF : ∀ f ∈ de t.2.2.1 m.1 m.2.2.2.2.1 m.2.2.2.2.2.1 k, kS f := AM ⟨ht.2.2.1.1, q3⟩ rR q2 hm.short; have hFl := fV t.2.2.1 m.1 m.2.2.2.2.1 m.2.2.2.2.2.1 k; generalize hFF : de t.2.2.1 m.1 m.2.2.2.2.1 m.2.2.2.2.2.1 k = F at *; subst hFl; have hi := pj F hm.items hF; have Xb := cf _ hi; have ai4 := cf _ hm.items; obtain ⟨a1, a2, _⟩ := xH (bq m.2.2.2.1 F) (by omega); have agH : dw m.2.2.2.1 ≤ dw (bq m.2.2.2.1 F) := HH (by omega) (by omega) fun r hr => ⟨r, AL F hr, rfl⟩
 obtain ⟨z0, z1, z2, z3, z4, z5, z6⟩ := ht; have F4 : tP (t.2.2.1 + ((List.length F : Nat) : Int)) t.2.2.2.2.2.1 t.2.2.2.2.2.1.length := fun j hj Ha => by
   have := z6 j hj Ha; exact ⟨this.1, by omega, this.2.2⟩
 have ht3 : 0 ≤ t3 ∧ t3 ≤ t.2.2.1 + ((List.length F : Nat) : Int) := by
   have z3a := z3.1; have z3b := z3.2; have z2a := z2.1; rcases q4 with e | e <;> rw [e] <;> omega
 have htq : yX (t.1, t.2.1, t.2.2.1 + ((List.length F : Nat) : Int), t3, t.2.2.2.2.1, t.2.2.2.2.2.1, ()) := ⟨z0, z1, ⟨by show 0 ≤ t.2.2.1 + _; omega, q3⟩, ht3, z4, z5, F4⟩; obtain ⟨u1, _, u3⟩ := zN (t.1, t.2.1, t.2.2.1 + ((List.length F : Nat) : Int), t3, t.2.2.2.2.1, t.2.2.2.2.2.1, ()) (by show t.2.2.2.2.2.1.length ≤ _; omega); rw [u3.2 htq] at u1; obtain ⟨VC, QF, m1, m2, _, m4, m5⟩ := OZ t.1 t.2.1 (t.2.2.1 + ((List.length F : Nat) : Int)) t3 t.2.2.2.2.1 t.2.2.2.2.2.1 m.1 ((dw (bq m.2.2.2.1 F) : Nat) : Int) (by omega) u1; have m4 := m4 rfl rR.1 rR.2 (by omega) htq.2.2.2.1.1 htq.2.2.2.1.2; have m5 := m5 rfl rR.1 rR.2 (by omega); obtain ⟨ms, l1, l2, l3, l4⟩ := HE (bq m.2.2.2.1 F) (t.2.2.1 + ((List.length F : Nat) : Int)) (by omega); have ls := JI t.1 t.2.1 (t.2.2.1 + ((List.length F : Nat) : Int)) VC QF t.2.2.2.2.2.1 (bq m.2.2.2.1 F) ms (by omega) (by omega) l1 l3; have li := JJ t.1 t.2.1 (t.2.2.1 + ((List.length F : Nat) : Int)) VC QF t.2.2.2.2.2.1 (bq m.2.2.2.1 F) ms (by omega) (by omega) l2 l3 (fun s hs => ⟨(l4 s hs).1, (l4 s hs).2.1.1, (l4 s hs).2.2⟩); have hlw : tP (t.2.2.1 + ((List.length F : Nat) : Int)) (aO (jt (bq m.2.2.2.1 F) t.2.2.2.2.2.1 ms)) (aO (jt (bq m.2.2.2.1 F) t.2.2.2.2.2.1 ms)).length := JL z6 (by omega) fun s hs => ⟨(l4 s hs).1, (l4 s hs).2.1.2⟩
 have hll : (aO (jt (bq m.2.2.2.1 F) t.2.2.2.2.2.1 ms)).length ≤ 20 := by
   rw [bY]; unfold jt; rw [List.length_take]; omega
 have hlk : ∀ s ∈ aY (aO (jt (bq m.2.2.2.1 F) t.2.2.2.2.2.1 ms)), hasB (bq m.2.2.2.1 F) s = false := by
   rw [nr]; intro s hs; have h2 := (List.mem_filter.1 (List.mem_of_mem_take hs)).2; unfold fZ at h2; rw [Bool.or_eq_true, Bool.and_eq_true, decide_eq_true_eq, decide_eq_true_eq] at h2; rcases h2 with ⟨h2, _⟩ | h2
   · simpa using h2
   · exact (l4 s h2).2.2
 generalize aO (jt (bq m.2.2.2.1 F) t.2.2.2.2.2.1 ms) = W at *; have QG : IntKind.i64.wrap (t.2.1 + (1 : Int)) = t.2.1 + 1 := fO (by omega) (by omega); obtain ⟨c1, c2⟩ := fU t.1 (t.2.1 + 1) (t.2.2.1 + ((List.length F : Nat) : Int)) VC QF W (by omega); have CL : A3 m ≤ 1048576 := by omega
 obtain ⟨kb1, kb2, kb3⟩ := xI m CL; rw [kb3.2 hm] at kb1 kb2; obtain ⟨kt1, kt2, kt3⟩ := zN t (by omega); rw [kt3.2 ⟨z0, z1, z2, z3, z4, z5, z6⟩] at kt1 kt2; obtain ⟨p1, p2⟩ := lJ m.1 m.2.1 m.2.2.1 m.2.2.2.1 m.2.2.2.2.1 m.2.2.2.2.2.1 m.2.2.2.2.2.2.1 m.2.2.2.2.2.2.2.1 m.2.2.2.2.2.2.2.2.1 m.2.2.2.2.2.2.2.2.2.1 m.2.2.2.2.2.2.2.2.2.2.1 m.2.2.2.2.2.2.2.2.2.2.2.1 m.2.2.2.2.2.2.2.2.2.2.2.2.1 m.2.2.2.2.2.2.2.2.2.2.2.2.2.1 m.2.2.2.2.2.2.2.2.2.2.2.2.2.2.1 m.2.2.2.2.2.2.2.2.2.2.2.2.2.2.2.1 CL; obtain ⟨g1, g2⟩ := O2 t m.2.2.2.1 (by omega) (by omega); have hgl := C2 t m.2.2.2.1; have htx := hm.texts; generalize Zl : (if (if ((dw (bq m.2.2.2.1 F) : Nat) : Int) < (if t.2.2.2.1 < m.2.2.2.2.2.2.2.1 then t.2.2.2.1 else m.2.2.2.2.2.2.2.1) then ((dw (bq m.2.2.2.1 F) : Nat) : Int) else (if t.2.2.2.1 < m.2.2.2.2.2.2.2.1 then t.2.2.2.1 else m.2.2.2.2.2.2.2.1)) > m.2.2.2.2.2.2.2.2.1 then (if ((dw (bq m.2.2.2.1 F) : Nat) : Int) < (if t.2.2.2.1 < m.2.2.2.2.2.2.2.1 then t.2.2.2.1 else m.2.2.2.2.2.2.2.1) then ((dw (bq m.2.2.2.1 F) : Nat) : Int) else (if t.2.2.2.1 < m.2.2.2.2.2.2.2.1 then t.2.2.2.1 else m.2.2.2.2.2.2.2.1)) else m.2.2.2.2.2.2.2.2.1) = line; have hle : m.2.2.2.2.2.2.2.2.1 ≤ line := by
   rw [← Zl]
   split <;> omega
 have hnx : yX (t.1, t.2.1 + 1, t.2.2.1 + ((List.length F : Nat) : Int), VC, QF, W, ()) := ⟨z0, ⟨by show 1 ≤ t.2.1 + 1; omega, by show t.2.1 + 1 ≤ 1000000000; omega⟩, ⟨by show 0 ≤ t.2.2.1 + _; have := z2.1; omega, q3⟩, ⟨m4.1, m4.2.1⟩, by
   have z4a := z4.1; have z4b := z4.2; show 0 ≤ QF ∧ QF ≤ 5; rcases m4.2.2.2.2 with e | e | ⟨e, _⟩ <;> rw [e] <;> omega, hll, hlw⟩
 refine ⟨(m.1, m.2.1, m.2.2.1, bq m.2.2.2.1 F, m.2.2.2.2.1.drop F.length, m.2.2.2.2.2.1.drop F.length, t.2.1, t.2.2.2.1, line, m.2.2.2.2.2.2.2.2.2.1, t.1, t.2.1 + 1, t.2.2.1 + ((List.length F : Nat) : Int), VC, QF, W, ()), rb t m.2.2.2.1 ++ F, F.length, (t.1, t.2.1 + 1, t.2.2.1 + ((List.length F : Nat) : Int), VC, QF, W, ()), ?_, ?_, ?_⟩
 · have hn : oE (m.1, m.2.1, m.2.2.1, bq m.2.2.2.1 F, m.2.2.2.2.1.drop F.length, m.2.2.2.2.2.1.drop F.length, t.2.1, t.2.2.2.1, line, m.2.2.2.2.2.2.2.2.2.1, t.1, t.2.1 + 1, t.2.2.1 + ((List.length F : Nat) : Int), VC, QF, W, ()) := {
     ring := hm.ring
     mem := hm.mem
     items := hi
     texts := ⟨by show (m.2.2.2.2.2.1.drop F.length).length ≤ 20; rw [List.length_drop]; omega, by show (m.2.2.2.2.1.drop F.length).length = (m.2.2.2.2.2.1.drop F.length).length; rw [List.length_drop, List.length_drop]; omega⟩
     MK := hm.MK.drop _
     short := hm.short.drop _
     round := ⟨by show 0 ≤ t.2.1; omega, by show t.2.1 ≤ 1000000000; omega⟩
     seen := ⟨z3.1, by show t.2.2.2.1 ≤ 60; have := z3.2; omega⟩
     line := by
       have hl := hm.line; have hs := hm.seen; have ha := z3.1; show 0 ≤ line ∧ line ≤ ((dw (bq m.2.2.2.1 F) : Nat) : Int); rw [← Zl]
       split <;> split <;> (try split) <;> omega
     heard := by
       have hl := hm.heard; show 0 ≤ m.2.2.2.2.2.2.2.2.2.1 ∧ m.2.2.2.2.2.2.2.2.2.1 ≤ ((dw (bq m.2.2.2.1 F) : Nat) : Int); omega
     last := .inr hnx }
   have Zm : F.length = min 3 m.2.2.2.2.2.1.length ∨ t.2.2.1 + ((F.length : Nat) : Int) = 60 := by
     rcases q5 with h | h | ⟨h, h'⟩
     · exact .inl h
     · exact .inr (by omega)
     · have := hm.short _ h h; omega
   have Zn : line = m.2.2.2.2.2.2.2.2.1 ∨ (line ≤ m.2.2.2.2.2.2.2.1 ∧ line ≤ t.2.2.2.1 ∧ line ≤ ((dw (bq m.2.2.2.1 F) : Nat) : Int)) := by
     rw [← Zl]
     split <;> split <;> (try split) <;> omega
   exact { vK := ⟨q1, q2, q3⟩, said := by rw [hFF], id := ⟨rfl, rfl, rfl⟩, items := by rw [hFF], words := ⟨rfl, rfl⟩, round := ⟨rfl, rfl, hle, rfl⟩, last := rfl, nq := hn, tq := hnx, next := ⟨rfl, rfl, rfl⟩, aff := Zm, marks := ⟨m5.1.trans (by rw [q6]), m5.2.trans (by rw [q6])⟩, line := Zn, Zk := hlk }
 · unfold jB; simp only [af hc, aj (show ¬ t.2.1 ≤ m.2.2.2.2.2.2.1 by omega), aj (show ¬ (1000000000 : Int) ≤ t.2.1 by omega), kb2, kt2, p2, g2, hN, Option.bind_some, Bool.not_true, cond_false, cond_true, ak, au, af (show ((List.length F : Nat) : Int) ≤ ((List.length m.2.2.2.2.1 : Nat) : Int) by omega), af (show ((List.length F : Nat) : Int) ≤ ((List.length m.2.2.2.2.2.1 : Nat) : Int) by omega)]; rw [C3 (hx := hm.items) (hf := hF) (hn := by omega) ..]; simp only [jd, a2, m2, li, QG, c2, Option.bind_some, Zl]; rw [aF (show ((rb t m.2.2.2.1).length + F.length) * 40 ≤ lim by unfold lim; omega)]; rfl
 · subst Zl; unfold jz; simp only [af hc, aj (show ¬ t.2.1 ≤ m.2.2.2.2.2.2.1 by omega), aj (show ¬ (1000000000 : Int) ≤ t.2.1 by omega), kb1, kt1, p1, g1, s1, Option.bind_some, Bool.not_true, cond_false, cond_true, ak, au, af (show ((List.length F : Nat) : Int) ≤ ((List.length m.2.2.2.2.1 : Nat) : Int) by omega), af (show ((List.length F : Nat) : Int) ≤ ((List.length m.2.2.2.2.2.1 : Nat) : Int) by omega),
     aF (show (0 + (rb t m.2.2.2.1).length) * 40 ≤ lim by unfold lim; omega), aF (show (0 + (List.drop F.length m.2.2.2.2.1).length) * 8 ≤ lim by rw [List.length_drop]; unfold lim; omega), aF (show (0 + (List.drop F.length m.2.2.2.2.2.1).length) * 16 ≤ lim by rw [List.length_drop]; unfold lim; omega), List.nil_append]
   rw [C4 (hx := hm.items) (hf := hF) (hn := by omega) ..]; simp only [jd, a1, m1, Option.bind_some, aF (show ((rb t m.2.2.2.1).length + F.length) * 40 ≤ lim by unfold lim; omega), cond_true]
   by_cases h1 : t.2.2.2.1 < m.2.2.2.2.2.2.2.1
   · rw [af h1, if_pos h1]; simp only [cond_true]
     by_cases h2 : ((dw (bq m.2.2.2.1 F) : Nat) : Int) < t.2.2.2.1
     · rw [af h2, if_pos h2]; simp only [cond_true]
       by_cases h3 : m.2.2.2.2.2.2.2.2.1 < ((dw (bq m.2.2.2.1 F) : Nat) : Int)
       · rw [af h3, if_pos (show ((dw (bq m.2.2.2.1 F) : Nat) : Int) > m.2.2.2.2.2.2.2.2.1 from h3)]; simp only [cond_true, ls, QG, c1, Option.bind_some]
       · rw [aj h3, if_neg (show ¬ ((dw (bq m.2.2.2.1 F) : Nat) : Int) > m.2.2.2.2.2.2.2.2.1 from h3)]; simp only [cond_false, ls, QG, c1, Option.bind_some]
     · rw [aj h2, if_neg h2]; simp only [cond_false]
       by_cases h3 : m.2.2.2.2.2.2.2.2.1 < t.2.2.2.1
       · rw [af h3, if_pos (show t.2.2.2.1 > m.2.2.2.2.2.2.2.2.1 from h3)]; simp only [cond_true, ls, QG, c1, Option.bind_some]
       · rw [aj h3, if_neg (show ¬ t.2.2.2.1 > m.2.2.2.2.2.2.2.2.1 from h3)]; simp only [cond_false, ls, QG, c1, Option.bind_some]
   · rw [aj h1, if_neg h1]; simp only [cond_false]
     by_cases h2 : ((dw (bq m.2.2.2.1 F) : Nat) : Int) < m.2.2.2.2.2.2.2.1
     · rw [af h2, if_pos h2]; simp only [cond_true]
       by_cases h3 : m.2.2.2.2.2.2.2.2.1 < ((dw (bq m.2.2.2.1 F) : Nat) : Int)
       · rw [af h3, if_pos (show ((dw (bq m.2.2.2.1 F) : Nat) : Int) > m.2.2.2.2.2.2.2.2.1 from h3)]; simp only [cond_true, ls, QG, c1, Option.bind_some]
       · rw [aj h3, if_neg (show ¬ ((dw (bq m.2.2.2.1 F) : Nat) : Int) > m.2.2.2.2.2.2.2.2.1 from h3)]; simp only [cond_false, ls, QG, c1, Option.bind_some]
     · rw [aj h2, if_neg h2]; simp only [cond_false]
       by_cases h3 : m.2.2.2.2.2.2.2.2.1 < m.2.2.2.2.2.2.2.1
       · rw [af h3, if_pos (show m.2.2.2.2.2.2.2.1 > m.2.2.2.2.2.2.2.2.1 from h3)]; simp only [cond_true, ls, QG, c1, Option.bind_some]
       · rw [aj h3, if_neg (show ¬ m.2.2.2.2.2.2.2.1 > m.2.2.2.2.2.2.2.2.1 from h3)]; simp only [cond_false, ls, QG, c1, Option.bind_some]
noncomputable def EA (m : cK) (t : jG) : Bool := vH m && (DI t && (decide (t.1 = m.2.1) && (decide (m.2.2.2.2.2.2.1 < t.2.1) && decide (t.2.1 < 1000000000))))
theorem KD (m : cK) (t : jG) (h : A3 m ≤ 1048576) (hw : t.2.2.2.2.2.1.length ≤ 1048576) (hn : EA m t = false) : jB m.1 m.2.1 m.2.2.1 m.2.2.2.1 m.2.2.2.2.1 m.2.2.2.2.2.1 m.2.2.2.2.2.2.1 m.2.2.2.2.2.2.2.1 m.2.2.2.2.2.2.2.2.1 m.2.2.2.2.2.2.2.2.2.1 m.2.2.2.2.2.2.2.2.2.2.1 m.2.2.2.2.2.2.2.2.2.2.2.1 m.2.2.2.2.2.2.2.2.2.2.2.2.1 m.2.2.2.2.2.2.2.2.2.2.2.2.2.1 m.2.2.2.2.2.2.2.2.2.2.2.2.2.2.1 m.2.2.2.2.2.2.2.2.2.2.2.2.2.2.2.1 t.1 t.2.1 t.2.2.1 t.2.2.2.1 t.2.2.2.2.1 t.2.2.2.2.2.1 = some ((0 : Int), (0 : Int), [], [], [], [], (0 : Int), (0 : Int), (0 : Int), (0 : Int), (0 : Int), (0 : Int), (0 : Int), (0 : Int), (0 : Int), [], [], (0 : Int), (0 : Int), (0 : Int), (0 : Int), (0 : Int), (0 : Int), [], false, ()) ∧
   jz m.1 m.2.1 m.2.2.1 m.2.2.2.1 m.2.2.2.2.1 m.2.2.2.2.2.1 m.2.2.2.2.2.2.1 m.2.2.2.2.2.2.2.1 m.2.2.2.2.2.2.2.2.1 m.2.2.2.2.2.2.2.2.2.1 m.2.2.2.2.2.2.2.2.2.2.1 m.2.2.2.2.2.2.2.2.2.2.2.1 m.2.2.2.2.2.2.2.2.2.2.2.2.1 m.2.2.2.2.2.2.2.2.2.2.2.2.2.1 m.2.2.2.2.2.2.2.2.2.2.2.2.2.2.1 m.2.2.2.2.2.2.2.2.2.2.2.2.2.2.2.1 t.1 t.2.1 t.2.2.1 t.2.2.2.1 t.2.2.2.2.1 t.2.2.2.2.2.1 = some (m.1, m.2.1, m.2.2.1, m.2.2.2.1, m.2.2.2.2.1, m.2.2.2.2.2.1, m.2.2.2.2.2.2.1, m.2.2.2.2.2.2.2.1, m.2.2.2.2.2.2.2.2.1, m.2.2.2.2.2.2.2.2.2.1, m.2.2.2.2.2.2.2.2.2.2.1, m.2.2.2.2.2.2.2.2.2.2.2.1, m.2.2.2.2.2.2.2.2.2.2.2.2.1, m.2.2.2.2.2.2.2.2.2.2.2.2.2.1, m.2.2.2.2.2.2.2.2.2.2.2.2.2.2.1, m.2.2.2.2.2.2.2.2.2.2.2.2.2.2.2.1, [], (0 : Int), (0 : Int), (0 : Int), (0 : Int), (0 : Int), [], false, ()) := by
 obtain ⟨k1, k2, _⟩ := xI m h; obtain ⟨t1, t2, _⟩ := zN t hw; obtain ⟨p1, _⟩ := lJ m.1 m.2.1 m.2.2.1 m.2.2.2.1 m.2.2.2.2.1 m.2.2.2.2.2.1 m.2.2.2.2.2.2.1 m.2.2.2.2.2.2.2.1 m.2.2.2.2.2.2.2.2.1 m.2.2.2.2.2.2.2.2.2.1 m.2.2.2.2.2.2.2.2.2.2.1 m.2.2.2.2.2.2.2.2.2.2.2.1 m.2.2.2.2.2.2.2.2.2.2.2.2.1 m.2.2.2.2.2.2.2.2.2.2.2.2.2.1 m.2.2.2.2.2.2.2.2.2.2.2.2.2.2.1 m.2.2.2.2.2.2.2.2.2.2.2.2.2.2.2.1 h; unfold EA at hn
 constructor
 · unfold jB
   by_cases a1 : t.1 = m.2.1
   case neg => rw [aj a1]; rfl
   by_cases a2 : m.2.2.2.2.2.2.1 < t.2.1
   case neg => rw [af a1, af (show t.2.1 ≤ m.2.2.2.2.2.2.1 by omega)]; rfl
   by_cases a3 : t.2.1 < 1000000000
   case neg => rw [af a1, aj (show ¬ t.2.1 ≤ m.2.2.2.2.2.2.1 by omega), af (show (1000000000 : Int) ≤ t.2.1 by omega)]; rfl
   rw [af a1, af a2, af a3] at hn; rw [af a1, aj (show ¬ t.2.1 ≤ m.2.2.2.2.2.2.1 by omega), aj (show ¬ (1000000000 : Int) ≤ t.2.1 by omega)]; simp only [Bool.not_true, cond_false, k2, Option.bind_some]
   cases hb : vH m
   · rfl
   · rw [hb] at hn
     cases hc : DI t
     · simp only [t2, hc, Bool.not_true, cond_false, Option.bind_some]; rfl
     · rw [hc] at hn; cases hn
 · unfold jz; simp only [p1, k1, Option.bind_some]
   cases hb : vH m
   · rfl
   simp only [Bool.not_true, cond_false, t1, Option.bind_some]
   cases hc : DI t
   · rfl
   by_cases a1 : t.1 = m.2.1
   case neg => rw [aj a1]; rfl
   by_cases a2 : m.2.2.2.2.2.2.1 < t.2.1
   case neg => rw [af a1, af (show t.2.1 ≤ m.2.2.2.2.2.2.1 by omega)]; rfl
   by_cases a3 : t.2.1 < 1000000000
   case neg => rw [af a1, aj (show ¬ t.2.1 ≤ m.2.2.2.2.2.2.1 by omega), af (show (1000000000 : Int) ≤ t.2.1 by omega)]; rfl
   rw [af a1, af a2, af a3, hb, hc] at hn
   cases hn
end Go.TM
set_option linter.unusedSimpArgs false
set_option linter.unusedVariables false
namespace Go.TM
open Go
def QH : cK := (0, 0, [], [], [], [], 0, 0, 0, 0, 0, 0, 0, 0, 0, [], ())
def zc (m : cK) (level : Int) (text : ByteArray) : cK := (m.1, m.2.1, m.2.2.1, m.2.2.2.1, m.2.2.2.2.1 ++ [(level, ())], m.2.2.2.2.2.1 ++ [(text, ())], m.2.2.2.2.2.2)
noncomputable def HJ (m : cK) (level : Int) (text : ByteArray) : Bool := vH m && ((decide (1 ≤ level) && decide (level ≤ 2)) && (decide (ByteArray.size text ≤ 60) && decide (m.2.2.2.2.2.1.length < 20)))
noncomputable def iq (m : cK) (level : Int) (text : ByteArray) : cK × Bool := bif HJ m level text then (zc m level text, true) else (QH, false)
theorem HK (m : cK) (level : Int) (text : ByteArray) (h : A3 m ≤ 1048576) : uZ m.1 m.2.1 m.2.2.1 m.2.2.2.1 m.2.2.2.2.1 m.2.2.2.2.2.1 m.2.2.2.2.2.2.1 m.2.2.2.2.2.2.2.1 m.2.2.2.2.2.2.2.2.1 m.2.2.2.2.2.2.2.2.2.1 m.2.2.2.2.2.2.2.2.2.2.1 m.2.2.2.2.2.2.2.2.2.2.2.1 m.2.2.2.2.2.2.2.2.2.2.2.2.1 m.2.2.2.2.2.2.2.2.2.2.2.2.2.1 m.2.2.2.2.2.2.2.2.2.2.2.2.2.2.1 m.2.2.2.2.2.2.2.2.2.2.2.2.2.2.2.1 level text = some ((iq m level text).1.1, (iq m level text).1.2.1, (iq m level text).1.2.2.1, (iq m level text).1.2.2.2.1, (iq m level text).1.2.2.2.2.1, (iq m level text).1.2.2.2.2.2.1, (iq m level text).1.2.2.2.2.2.2.1, (iq m level text).1.2.2.2.2.2.2.2.1, (iq m level text).1.2.2.2.2.2.2.2.2.1, (iq m level text).1.2.2.2.2.2.2.2.2.2.1, (iq m level text).1.2.2.2.2.2.2.2.2.2.2.1, (iq m level text).1.2.2.2.2.2.2.2.2.2.2.2.1, (iq m level text).1.2.2.2.2.2.2.2.2.2.2.2.2.1, (iq m level text).1.2.2.2.2.2.2.2.2.2.2.2.2.2.1, (iq m level text).1.2.2.2.2.2.2.2.2.2.2.2.2.2.2.1, (iq m level text).1.2.2.2.2.2.2.2.2.2.2.2.2.2.2.2.1, (iq m level text).2, ()) ∧ vv m.1 m.2.1 m.2.2.1 m.2.2.2.1 m.2.2.2.2.1 m.2.2.2.2.2.1 m.2.2.2.2.2.2.1 m.2.2.2.2.2.2.2.1 m.2.2.2.2.2.2.2.2.1 m.2.2.2.2.2.2.2.2.2.1 m.2.2.2.2.2.2.2.2.2.2.1 m.2.2.2.2.2.2.2.2.2.2.2.1 m.2.2.2.2.2.2.2.2.2.2.2.2.1 m.2.2.2.2.2.2.2.2.2.2.2.2.2.1 m.2.2.2.2.2.2.2.2.2.2.2.2.2.2.1 m.2.2.2.2.2.2.2.2.2.2.2.2.2.2.2.1 level text = some ((iq m level text).1.1, (iq m level text).1.2.1, (iq m level text).1.2.2.1, (iq m level text).1.2.2.2.1, (iq m level text).1.2.2.2.2.1, (iq m level text).1.2.2.2.2.2.1, (iq m level text).1.2.2.2.2.2.2.1, (iq m level text).1.2.2.2.2.2.2.2.1, (iq m level text).1.2.2.2.2.2.2.2.2.1, (iq m level text).1.2.2.2.2.2.2.2.2.2.1, (iq m level text).1.2.2.2.2.2.2.2.2.2.2.1, (iq m level text).1.2.2.2.2.2.2.2.2.2.2.2.1, (iq m level text).1.2.2.2.2.2.2.2.2.2.2.2.2.1, (iq m level text).1.2.2.2.2.2.2.2.2.2.2.2.2.2.1, (iq m level text).1.2.2.2.2.2.2.2.2.2.2.2.2.2.2.1, (iq m level text).1.2.2.2.2.2.2.2.2.2.2.2.2.2.2.2.1, (iq m level text).2, ()) := by
 obtain ⟨k1, k2, k3⟩ := xI m h; obtain ⟨p1, p2⟩ := lJ m.1 m.2.1 m.2.2.1 m.2.2.2.1 m.2.2.2.2.1 m.2.2.2.2.2.1 m.2.2.2.2.2.2.1 m.2.2.2.2.2.2.2.1 m.2.2.2.2.2.2.2.2.1 m.2.2.2.2.2.2.2.2.2.1 m.2.2.2.2.2.2.2.2.2.2.1 m.2.2.2.2.2.2.2.2.2.2.2.1 m.2.2.2.2.2.2.2.2.2.2.2.2.1 m.2.2.2.2.2.2.2.2.2.2.2.2.2.1 m.2.2.2.2.2.2.2.2.2.2.2.2.2.2.1 m.2.2.2.2.2.2.2.2.2.2.2.2.2.2.2.1 h; unfold uZ vv iq HJ; simp only [k1, k2, p1, p2, nM, vF, Option.bind_some]
 cases hb : vH m
 · cases (decide (1 ≤ level) && decide (level ≤ 2))
   · exact ⟨rfl, rfl⟩
   cases decide ((60 : Int) < ((ByteArray.size text : Nat) : Int))
   · cases decide ((20 : Int) ≤ ((List.length m.2.2.2.2.2.1 : Nat) : Int))
     · exact ⟨rfl, rfl⟩
     · exact ⟨rfl, rfl⟩
   · exact ⟨rfl, rfl⟩
 have hs := (k3.1 hb).small; unfold A3 at hs
 cases (decide (1 ≤ level) && decide (level ≤ 2))
 · exact ⟨rfl, rfl⟩
 by_cases w1 : ByteArray.size text ≤ 60
 case neg => rw [aj w1, af (show (60 : Int) < ((ByteArray.size text : Nat) : Int) by omega)]; exact ⟨rfl, rfl⟩
 by_cases w2 : m.2.2.2.2.2.1.length < 20
 case neg => rw [af w1, aj w2, aj (show ¬ (60 : Int) < ((ByteArray.size text : Nat) : Int) by omega), af (show (20 : Int) ≤ ((List.length m.2.2.2.2.2.1 : Nat) : Int) by omega)]; exact ⟨rfl, rfl⟩
 rw [af w1, af w2, aj (show ¬ (60 : Int) < ((ByteArray.size text : Nat) : Int) by omega), aj (show ¬ (20 : Int) ≤ ((List.length m.2.2.2.2.2.1 : Nat) : Int) by omega)]; simp only [Bool.not_true, cond_false, aF (show (m.2.2.2.2.1.length + 1) * 8 ≤ lim by unfold lim; omega), aF (show (m.2.2.2.2.2.1.length + 1) * 16 ≤ lim by unfold lim; omega), cond_true, Bool.and_true]; exact ⟨rfl, rfl⟩
theorem DK (c : Int) (xs : cP) (h : xs.length ≤ 1048576) : bV c xs = some (c, xs, ()) := by
 unfold bV; rw [mZ _ h]; rfl
end Go.TM
set_option linter.unusedSimpArgs false
set_option linter.unusedVariables false
namespace Go.TM
open Go
theorem KE {m : cK} (hm : oE m) {level : Int} {text : ByteArray} (hl : 1 ≤ level ∧ level ≤ 2) (ht : ByteArray.size text ≤ 60) (hn : m.2.2.2.2.2.1.length < 20) : oE (zc m level text) := {
 ring := hm.ring
 mem := hm.mem
 items := hm.items
 texts := ⟨by show (m.2.2.2.2.2.1 ++ [(text, ())]).length ≤ 20; simp; omega, by show (m.2.2.2.2.1 ++ [(level, ())]).length = (m.2.2.2.2.2.1 ++ [(text, ())]).length; have := hm.texts.2; simp; omega⟩
 MK := fun j hj _ => by
   have hj : j < (m.2.2.2.2.1 ++ [(level, ())]).length := hj; show (decide (1 ≤ (m.2.2.2.2.1 ++ [(level, ())])[j].1) && decide ((m.2.2.2.2.1 ++ [(level, ())])[j].1 ≤ 2)) = true
   by_cases h : j < m.2.2.2.2.1.length
   · rw [List.getElem_append_left h]; exact hm.MK j h h
   · have : j = m.2.2.2.2.1.length := by simp at hj; omega
     subst this; simp [hl.1, hl.2]
 short := fun j hj _ => by
   have hj : j < (m.2.2.2.2.2.1 ++ [(text, ())]).length := hj; show ByteArray.size (m.2.2.2.2.2.1 ++ [(text, ())])[j].1 ≤ 60
   by_cases h : j < m.2.2.2.2.2.1.length
   · rw [List.getElem_append_left h]; exact hm.short j h h
   · have : j = m.2.2.2.2.2.1.length := by simp at hj; omega
     subst this; simpa using ht
 round := hm.round
 seen := hm.seen
 line := hm.line
 heard := hm.heard
 last := hm.last }
theorem zd {c2 d : Int} {lv : cP} {tx : List (ByteArray × Unit)} {m k : Nat} (hk : k < (de c2 d lv tx m).length) : (de c2 d lv tx m)[k] = ph c2 d lv tx k := by
 simp [de]
theorem pk {c2 d : Int} {lv : cP} {tx : List (ByteArray × Unit)} {m : Nat} {f : cH} (hf : f ∈ de c2 d lv tx m) : ∃ k, k < m ∧ f = ph c2 d lv tx k := by
 obtain ⟨k, hk, rfl⟩ := List.mem_iff_getElem.1 hf; rw [fV] at hk; exact ⟨k, hk, zd _⟩
def sk (m : cK) (v : Int) : cK := (m.1, m.2.1, m.2.2.1, m.2.2.2.1, m.2.2.2.2.1, m.2.2.2.2.2.1, m.2.2.2.2.2.2.1, m.2.2.2.2.2.2.2.1, m.2.2.2.2.2.2.2.2.1, v, m.2.2.2.2.2.2.2.2.2.2)
theorem KG {m : cK} (hm : oE m) : ∃ (k : Nat) (n : cK), n = sk m (m.2.2.2.2.2.2.2.2.2.1 + ((k : Nat) : Int)) ∧ px m.1 m.2.1 m.2.2.1 m.2.2.2.1 m.2.2.2.2.1 m.2.2.2.2.2.1 m.2.2.2.2.2.2.1 m.2.2.2.2.2.2.2.1 m.2.2.2.2.2.2.2.2.1 m.2.2.2.2.2.2.2.2.2.1 m.2.2.2.2.2.2.2.2.2.2.1 m.2.2.2.2.2.2.2.2.2.2.2.1 m.2.2.2.2.2.2.2.2.2.2.2.2.1 m.2.2.2.2.2.2.2.2.2.2.2.2.2.1 m.2.2.2.2.2.2.2.2.2.2.2.2.2.2.1 m.2.2.2.2.2.2.2.2.2.2.2.2.2.2.2.1 = some (n.1, n.2.1, n.2.2.1, n.2.2.2.1, n.2.2.2.2.1, n.2.2.2.2.2.1, n.2.2.2.2.2.2.1, n.2.2.2.2.2.2.2.1, n.2.2.2.2.2.2.2.2.1, n.2.2.2.2.2.2.2.2.2.1, n.2.2.2.2.2.2.2.2.2.2.1, n.2.2.2.2.2.2.2.2.2.2.2.1, n.2.2.2.2.2.2.2.2.2.2.2.2.1, n.2.2.2.2.2.2.2.2.2.2.2.2.2.1, n.2.2.2.2.2.2.2.2.2.2.2.2.2.2.1, n.2.2.2.2.2.2.2.2.2.2.2.2.2.2.2.1, iM m.2.2.2.1 m.2.2.2.2.2.2.2.2.2.1 k, ()) ∧ rZ m.1 m.2.1 m.2.2.1 m.2.2.2.1 m.2.2.2.2.1 m.2.2.2.2.2.1 m.2.2.2.2.2.2.1 m.2.2.2.2.2.2.2.1 m.2.2.2.2.2.2.2.2.1 m.2.2.2.2.2.2.2.2.2.1 m.2.2.2.2.2.2.2.2.2.2.1 m.2.2.2.2.2.2.2.2.2.2.2.1 m.2.2.2.2.2.2.2.2.2.2.2.2.1 m.2.2.2.2.2.2.2.2.2.2.2.2.2.1 m.2.2.2.2.2.2.2.2.2.2.2.2.2.2.1 m.2.2.2.2.2.2.2.2.2.2.2.2.2.2.2.1 = some (n.1, n.2.1, n.2.2.1, n.2.2.2.1, n.2.2.2.2.1, n.2.2.2.2.2.1, n.2.2.2.2.2.2.1, n.2.2.2.2.2.2.2.1, n.2.2.2.2.2.2.2.2.1, n.2.2.2.2.2.2.2.2.2.1, n.2.2.2.2.2.2.2.2.2.2.1, n.2.2.2.2.2.2.2.2.2.2.2.1, n.2.2.2.2.2.2.2.2.2.2.2.2.1, n.2.2.2.2.2.2.2.2.2.2.2.2.2.1, n.2.2.2.2.2.2.2.2.2.2.2.2.2.2.1, n.2.2.2.2.2.2.2.2.2.2.2.2.2.2.2.1, iM m.2.2.2.1 m.2.2.2.2.2.2.2.2.2.1 k, ()) ∧ oE n ∧
   m.2.2.2.2.2.2.2.2.2.1 + ((k : Nat) : Int) ≤ ((dw m.2.2.2.1 : Nat) : Int) ∧ (∀ j, j < k → ¬ wB m.2.2.2.1 m.2.2.2.2.2.2.2.2.1 (m.2.2.2.2.2.2.2.2.2.1 + ((j + 1 : Nat) : Int))) ∧ (m.2.2.2.2.2.2.2.2.2.1 + ((k : Nat) : Int) < ((dw m.2.2.2.1 : Nat) : Int) → wB m.2.2.2.1 m.2.2.2.2.2.2.2.2.1 (m.2.2.2.2.2.2.2.2.2.1 + ((k + 1 : Nat) : Int))) := by
 have hw := hm.small; have hb := (xI m (Nat.le_trans hw (by decide))).2.2.2 hm; obtain ⟨k, v, h1, h2, h3, _, h5⟩ := OX m (Nat.le_trans hw (by decide)); subst h3; obtain ⟨g1, g2, g3⟩ := h5 hb; have hh := hm.heard; exact ⟨k, _, rfl, h2, h1, { ring := hm.ring, mem := hm.mem, items := hm.items, texts := hm.texts, MK := hm.MK, short := hm.short, round := hm.round, seen := hm.seen, line := hm.line, heard := ⟨by show 0 ≤ m.2.2.2.2.2.2.2.2.2.1 + ((k : Nat) : Int); omega, g1⟩, last := hm.last }, g1, g2, g3⟩
end Go.TM
set_option linter.unusedSimpArgs false
set_option linter.unusedVariables false
namespace Go.TM
open Go
def fC (code : List (Int × Unit)) (at_ : Int) : Prop := 0 ≤ at_ ∧ at_ ≤ ((code.length : Nat) : Int) ∧ code.length ≤ 1048576
theorem Bj (y : Int) : 0 ≤ IntKind.i64.wrap ((BitVec.ofInt IntKind.i64.bits y &&& BitVec.ofInt IntKind.i64.bits (255 : Int)).toNat : Int) ∧ IntKind.i64.wrap ((BitVec.ofInt IntKind.i64.bits y &&& BitVec.ofInt IntKind.i64.bits (255 : Int)).toNat : Int) ≤ 255 := by
 have h : (BitVec.ofInt IntKind.i64.bits y &&& BitVec.ofInt IntKind.i64.bits (255 : Int)).toNat ≤ 255 := by
   rw [BitVec.toNat_and]; exact Nat.le_trans Nat.and_le_right (by decide)
 rw [fO (by omega) (by omega)]; omega
def RM (code : List (Int × Unit)) (o : Option (Int × (List (Int × Unit)) × Int × Int × Unit)) (lo hi : Int) : Prop :=
 ∃ v HL s', o = some (v, code, HL, s', ()) ∧ lo ≤ v ∧ v < hi ∧ fC code HL
theorem ze (code : List (Int × Unit)) (at_ qK : Int) (h : fC code at_) : RM code (gR code at_ qK) 0 256 := by
 obtain ⟨h0, h1, h2⟩ := h; unfold gR
 by_cases bX : at_ < ((List.length code : Nat) : Int)
 · obtain ⟨k, rfl⟩ := Int.eq_ofNat_of_zero_le h0; have hk : k < code.length := by omega
   rw [af bX]; simp only [cond_true, ak, au, List.getElem?_eq_getElem hk, Option.bind_some, aG (show k < 4611686018427387904 by omega)]; exact ⟨_, _, _, rfl, (Bj _).1, by have := (Bj (IntKind.i64.wrap ((IntKind.i64.wrap ((BitVec.ofInt IntKind.i64.bits (IntKind.i64.wrap ((BitVec.ofInt IntKind.i64.bits (Int.fdiv (IntKind.i64.wrap ((IntKind.i64.wrap (qK * (6364136223846793005 : Int))) + (1442695040888963407 : Int))) (2 ^ (min 33 IntKind.i64.bits))) ^^^ BitVec.ofInt IntKind.i64.bits (Int.fdiv (IntKind.i64.wrap ((IntKind.i64.wrap (qK * (6364136223846793005 : Int))) + (1442695040888963407 : Int))) (2 ^ (min 45 IntKind.i64.bits)))).toNat : Int)) &&& BitVec.ofInt IntKind.i64.bits (255 : Int)).toNat : Int)) + (IntKind.i64.wrap code[k].1)))).2; exact Int.lt_add_one_of_le this, by omega, by omega, h2⟩
 · rw [aj bX]; exact ⟨_, _, _, rfl, (Bj _).1, Int.lt_add_one_of_le (Bj _).2, h0, h1, h2⟩
theorem xJ {v n : Int} (hv : 0 ≤ v) (hn : 0 < n) : 0 ≤ Int.tmod v n ∧ Int.tmod v n < n := by
 obtain ⟨a, rfl⟩ := Int.eq_ofNat_of_zero_le hv; obtain ⟨b, rfl⟩ := Int.eq_ofNat_of_zero_le (Int.le_of_lt hn); have : Int.tmod ((a : Nat) : Int) ((b : Nat) : Int) = ((a % b : Nat) : Int) := rfl; rw [this]; have := Nat.mod_lt a (show 0 < b by omega); omega
theorem qt (code : List (Int × Unit)) (at_ qK n : Int) (h : fC code at_) (hn : 0 < n) : RM code (bU code at_ qK n) 0 n := by
 unfold bU; rw [aj (show ¬ n ≤ 0 by omega), aj (show ¬ n = 0 by omega)]
 by_cases Zo : n ≤ 256
 · obtain ⟨v, a1, s1, e1, v1, v2, d1⟩ := ze code at_ qK h; rw [af Zo]; simp only [cond_false, cond_true, e1, Option.bind_some]; exact ⟨_, _, _, rfl, (xJ v1 hn).1, (xJ v1 hn).2, d1⟩
 · obtain ⟨v, a1, s1, e1, v1, v2, d1⟩ := ze code at_ qK h; obtain ⟨w, a2, s2, e2, w1, w2, d2⟩ := ze code a1 s1 d1; obtain ⟨x, a3, s3, e3, x1, x2, d3⟩ := ze code a2 s2 d2; obtain ⟨y, a4, s4, e4, y1, y2, d4⟩ := ze code a3 s3 d3; rw [aj Zo]; simp only [cond_false, e1, e2, e3, e4, Option.bind_some]; have hw : IntKind.i64.wrap ((IntKind.i64.wrap ((IntKind.i64.wrap ((IntKind.i64.wrap (v * (16777216 : Int))) + (IntKind.i64.wrap (w * (65536 : Int))))) + (IntKind.i64.wrap (x * (256 : Int))))) + y) = v * 16777216 + w * 65536 + x * 256 + y := by
     rw [fO (show -9223372036854775808 ≤ v * (16777216 : Int) by omega) (by omega), fO (show -9223372036854775808 ≤ w * (65536 : Int) by omega) (by omega), fO (show -9223372036854775808 ≤ x * (256 : Int) by omega) (by omega),
       fO (show -9223372036854775808 ≤ v * (16777216 : Int) + w * 65536 by omega) (by omega), fO (show -9223372036854775808 ≤ v * (16777216 : Int) + w * 65536 + x * 256 by omega) (by omega), fO (by omega) (by omega)]
   rw [hw]; have hr := xJ (v := v * 16777216 + w * 65536 + x * 256 + y) (by omega) hn; exact ⟨_, _, _, rfl, hr.1, hr.2, d4⟩
theorem KH (code : List (Int × Unit)) (at_ qK n : Int) (h : fC code at_) (hn : 0 < n) : ∃ b HL s', me code at_ qK n = some (b, code, HL, s', ()) ∧ fC code HL := by
 obtain ⟨v, a1, s1, e1, v1, v2, d1⟩ := qt code at_ qK n h hn; unfold me; simp only [e1, Option.bind_some]; exact ⟨_, _, _, rfl, d1⟩
def VD {B : Type} (code : List (Int × Unit)) : Sum ((List (Int × Unit)) × Int × Unit) B → Prop
 | .inl y => y.1 = code
 | .inr _ => False
theorem VE (code : List (Int × Unit)) (h : code.length ≤ 1048576) : ∃ s', nB code = some (code, (0 : Int), s', ()) := by
 unfold nB; obtain ⟨e, he, hq⟩ := ev (round := j5) (x := (code, IntKind.i64.wrap ((27101 : Int) + ((List.length code : Nat) : Int)), ((0 : Nat) : Int), ())) code.length (fun k x => ∃ s, x = (code, s, ((k : Nat) : Int), ())) (VD code) (by
   rintro x ⟨s, rfl⟩
   exact ⟨.inl (code, s, ()), by simp only [j5, pQ, aD, cond_false], rfl⟩) (by
   rintro k x hk ⟨s, rfl⟩
   simp only [j5, pQ, ax hk, ak, cond_true, au, List.getElem?_eq_getElem hk, Option.bind_some, aG (show k < 4611686018427387904 by omega)]
   cases decide (((k : Nat) : Int) < (4000 : Int))
   · exact .inl ⟨.inl (code, s, ()), rfl, rfl⟩
   · exact .inr ⟨_, rfl, _, rfl⟩) ⟨_, rfl⟩
 rw [show ((0 : Nat) : Int) = (0 : Int) from rfl] at he; rw [he]
 cases e with
 | inr e => exact hq.elim
 | inl e =>
   have hq : e.1 = code := hq; exact ⟨e.2.1, by rw [← hq]; rfl⟩
theorem QI (code : List (Int × Unit)) (at_ qK : Int) (l : List (Int × Unit)) (h : fC code at_) (h0 : 0 < l.length) : ∃ v HL s', fu code at_ qK l = some (v, code, HL, s', ()) ∧ (v, ()) ∈ l ∧ fC code HL := by
 obtain ⟨v, a1, s1, e1, v1, v2, d1⟩ := qt code at_ qK ((l.length : Nat) : Int) h (by omega); obtain ⟨k, rfl⟩ := Int.eq_ofNat_of_zero_le v1; have hk : k < l.length := by omega
 unfold fu; simp only [e1, Option.bind_some, ak, cond_true, au, List.getElem?_eq_getElem hk]; exact ⟨_, _, _, rfl, List.getElem_mem hk, d1⟩
end Go.TM
set_option linter.unusedSimpArgs false
set_option linter.unusedVariables false
namespace Go.TM
open Go
end Go.TM
set_option linter.unusedSimpArgs false
set_option linter.unusedVariables false
namespace Go.TM
open Go
theorem O3 (code : List (Int × Unit)) (at_ qK : Int) (l : List (ByteArray × Unit)) (h : fC code at_) (h0 : 0 < l.length) : ∃ v HL s', oV code at_ qK l = some (v, code, HL, s', ()) ∧ (v, ()) ∈ l ∧ fC code HL := by
 obtain ⟨v, a1, s1, e1, v1, v2, d1⟩ := qt code at_ qK ((l.length : Nat) : Int) h (by omega); obtain ⟨k, rfl⟩ := Int.eq_ofNat_of_zero_le v1; have hk : k < l.length := by omega
 unfold oV; simp only [e1, Option.bind_some, ak, cond_true, au, List.getElem?_eq_getElem hk]; exact ⟨_, _, _, rfl, List.getElem_mem hk, d1⟩
end Go.TM
set_option linter.unusedSimpArgs false
set_option linter.unusedVariables false
namespace Go.TM
open Go
def oG (xs : List (Int × Unit)) (m : Nat) : Prop := xs.length ≤ m ∧ (∀ j (hj : j < xs.length), 1 ≤ xs[j].1 ∧ xs[j].1 ≤ ((m : Nat) : Int)) ∧ ∀ i j (hi : i < xs.length) (hj : j < xs.length), i < j → xs[i].1 < xs[j].1
theorem oG.snoc {xs : List (Int × Unit)} {m : Nat} (h : oG xs m) : oG (xs ++ [(((m + 1 : Nat) : Int), ())]) (m + 1) := by
 obtain ⟨h1, h2, h3⟩ := h; refine ⟨by simp; omega, fun j hj => ?_, fun i j hi hj Pp => ?_⟩
 · by_cases hx : j < xs.length
   · rw [List.getElem_append_left hx]; have := h2 j hx; omega
   · have : j = xs.length := by simp at hj; omega
     subst this; simp; omega
 · by_cases hx : j < xs.length
   · rw [List.getElem_append_left hx, List.getElem_append_left (by omega)]; exact h3 i j (by omega) hx Pp
   · have hj' : j = xs.length := by simp at hj; omega
     subst hj'; have M0 : i < xs.length := Pp; rw [List.getElem_append_left M0]; have := h2 i M0; simp; omega
theorem oG.up {xs : List (Int × Unit)} {m : Nat} (h : oG xs m) : oG xs (m + 1) :=
 ⟨by have := h.1; omega, fun j hj => by have := h.2.1 j hj; omega, h.2.2⟩
structure HM (c : Int) (xs : List (Int × Unit)) : Prop where
 wW : 1 ≤ c
 id2 : c ≤ 9
 some_ : 1 ≤ xs.length
 rising : oG xs 5
theorem HM.len {c : Int} {xs : List (Int × Unit)} (h : HM c xs) : xs.length ≤ 5 := h.rising.1
def O4 {B : Type} (code : List (Int × Unit)) (c : Int) : Sum ((List (Int × Unit)) × Int × Int × Int × (List (Int × Unit)) × Int × (List (Int × Unit)) × Unit) B → Prop
 | .inl y => y.1 = code ∧ fC code y.2.1 ∧ y.2.2.2.2.2.1 = c ∧ oG y.2.2.2.2.2.2.1 4
 | .inr _ => False
theorem JM (code : List (Int × Unit)) (at_ qK : Int) (h : fC code at_) : ∃ c xs HL s', oT code at_ qK = some (c, xs, code, HL, s', ()) ∧ HM c xs ∧ c ≤ 3 ∧ oG xs 4 ∧ fC code HL := by
 obtain ⟨v, a1, s1, e1, v1, v2, d1⟩ := qt code at_ qK 3 h (by omega); unfold oT; rw [e1]; simp only [Option.bind_some]; have hw : IntKind.i64.wrap ((1 : Int) + v) = 1 + v := fO (by omega) (by omega); rw [hw]; obtain ⟨e, he, hq⟩ := ev (round := gC) (x := (code, a1, s1, (0 : Int), [], 1 + v, [], ((1 : Nat) : Int), ())) 4 (fun k x => ∃ (a s : Int) (m : List (Int × Unit)), x = (code, a, s, (0 : Int), [], 1 + v, m, ((k + 1 : Nat) : Int), ()) ∧ fC code a ∧ oG m k)
   (O4 code (1 + v)) (by
   rintro x ⟨a, s, m, rfl, da, rm⟩
   exact ⟨.inl (code, a, s, 0, [], 1 + v, m, ()), by simp only [gC, nV, aj (show ¬ ((4 + 1 : Nat) : Int) ≤ 4 by omega), cond_false], rfl, da, rfl, rm⟩) (by
   rintro k x hk ⟨a, s, m, rfl, da, rm⟩
   obtain ⟨b, a2, s2, e2, d2⟩ := KH code a s 3 da (by omega); have PG := rm.1; have hs : IntKind.i64.wrap (((k + 1 : Nat) : Int) + (1 : Int)) = ((k + 1 + 1 : Nat) : Int) := by rw [fO] <;> omega
   simp only [gC, nV, af (show ((k + 1 : Nat) : Int) ≤ 4 by omega), cond_true, e2, Option.bind_some, aF (show (List.length m + 1) * 8 ≤ lim by unfold lim; omega), hs]
   cases b
   · exact .inr ⟨_, rfl, a2, s2, m ++ [(((k + 1 : Nat) : Int), ())], rfl, d2, rm.snoc⟩
   · exact .inr ⟨_, rfl, a2, s2, m, rfl, d2, rm.up⟩) ⟨a1, s1, [], rfl, d1, by simp, fun j hj => by simp at hj, fun i j hi => by simp at hi⟩
 have he : aE gC (code, a1, s1, (0 : Int), [], 1 + v, [], (1 : Int), ()) = some e := he; rw [he]
 cases e with
 | inr e => exact hq.elim
 | inl e =>
   obtain ⟨y1, y2, y3, y4, y5, y6, y7, _⟩ := e; obtain ⟨q1, q2, q3, q4⟩ := hq; simp only at q1 q2 q3 q4; subst q1 q3; simp only [jd]; have q5 : oG y7 5 := q4.up
   by_cases h0 : ((List.length y7 : Nat) : Int) = 0
   · rw [af h0]; have r4 : oG [((2 : Int), ())] 4 := ⟨by simp, fun j hj => by
       have : j = 0 := by simp at hj; omega
       subst this; simp, fun i j hi hj Pp => by simp at hi hj; omega⟩
     exact ⟨_, _, _, _, rfl, ⟨by omega, by omega, by simp, r4.up⟩, by omega, r4, q2⟩
   · rw [aj h0]; exact ⟨_, _, _, _, rfl, ⟨by omega, by omega, by omega, q5⟩, by omega, q4, q2⟩
end Go.TM
set_option linter.unusedSimpArgs false
set_option linter.unusedVariables false
namespace Go.TM
open Go
abbrev afh : Type := Int × Int × (List (Int × Unit)) × aK × (List (Int × Unit)) × (List (ByteArray × Unit)) × Int × Int × Int × Int × Int × Int × Int × Int × Int × (List (Int × Unit)) × Unit
def lf (c : Int) (xs : List (Int × Unit)) (id : Int) : afh := (id, c, xs, [], [], [], 0, 0, 0, 0, 0, 0, 0, 0, 0, [], ())
theorem FN (c : Int) (xs : List (Int × Unit)) (id : Int) (h : xs.length ≤ 1048576) (hr : cG c xs = some (true, ())) (hm : (id, ()) ∈ xs) : fP id c xs = some (id, c, xs, [], [], [], 0, 0, 0, 0, 0, 0, 0, 0, 0, [], true, ()) := by
 unfold fP; simp only [hr, Bf _ _ h, af hm, Option.bind_some, Bool.not_true, cond_false, aF (show (0 + xs.length) * 8 ≤ lim by unfold lim; omega), cond_true, List.nil_append]
theorem FO (c : Int) (xs : List (Int × Unit)) (id : Int) (h : xs.length ≤ 1048576) (hr : dV c xs = some (true, ())) (hm : (id, ()) ∈ xs) : pb id c xs = some (id, c, xs, [], [], [], 0, 0, 0, 0, 0, 0, 0, 0, 0, [], true, ()) := by
 unfold pb bV; simp only [hr, Kz _ _ h, af hm, Option.bind_some, Bool.not_true, cond_false, mZ xs h]
theorem map_take {α β : Type} (f : α → β) (xs : List α) {k : Nat} (hk : k < xs.length) : (xs.take (k + 1)).map f = (xs.take k).map f ++ [f xs[k]] := by
 rw [List.take_succ_eq_append_getElem hk, List.map_append]; rfl
end Go.TM
set_option linter.unusedSimpArgs false
set_option linter.unusedVariables false
namespace Go.TM
open Go
abbrev lS : Type := Int × Bool × Int × Int × Int × Int × Int × cP × Int × Int × Int × ByteArray × Unit
abbrev Zp : Type := List (aK × Unit)
abbrev bj : Type := Int × cP × List cK × List lS × Zp × aK × Unit
def nN (w : bj) (k : Nat) (m : cK) : bj := (w.1, w.2.1, w.2.2.1.set k m, w.2.2.2)
def gu (w : bj) (l : List lS) : bj := (w.1, w.2.1, w.2.2.1, l, w.2.2.2.2)
def VF (w : bj) (l : Zp) : bj := (w.1, w.2.1, w.2.2.1, w.2.2.2.1, l, w.2.2.2.2.2)
def VG (w : bj) (l : aK) : bj := (w.1, w.2.1, w.2.2.1, w.2.2.2.1, w.2.2.2.2.1, l, ())
theorem JN (w : bj) (h : w.2.2.1.length ≤ 1048576) (id : Int) : ∃ a, j7 w.1 w.2.1 w.2.2.1 w.2.2.2.1 w.2.2.2.2.1 w.2.2.2.2.2.1 id = some (a, w.1, w.2.1, w.2.2.1, w.2.2.2.1, w.2.2.2.2.1, w.2.2.2.2.2.1, ()) ∧ ((a = -1 ∧ ∀ k (hk : k < w.2.2.1.length), (w.2.2.1[k]).1 ≠ id) ∨ ∃ k, ∃ hk : k < w.2.2.1.length, a = ((k : Nat) : Int) ∧ (w.2.2.1[k]).1 = id) := by
 obtain ⟨e, he, hq⟩ := ev (round := jx) (x := (w.1, w.2.1, w.2.2.1, w.2.2.2.1, w.2.2.2.2.1, w.2.2.2.2.2.1, id, ((0 : Nat) : Int), ())) w.2.2.1.length (fun k x => x = (w.1, w.2.1, w.2.2.1, w.2.2.2.1, w.2.2.2.2.1, w.2.2.2.2.2.1, id, ((k : Nat) : Int), ()) ∧ ∀ j (hj : j < w.2.2.1.length), j < k → (w.2.2.1[j]).1 ≠ id)
   (fun e => (e = .inl (w.1, w.2.1, w.2.2.1, w.2.2.2.1, w.2.2.2.2.1, w.2.2.2.2.2.1, ()) ∧ ∀ k (hk : k < w.2.2.1.length), (w.2.2.1[k]).1 ≠ id) ∨ ∃ k, ∃ hk : k < w.2.2.1.length, e = .inr (w.1, w.2.1, w.2.2.1, w.2.2.2.1, w.2.2.2.2.1, w.2.2.2.2.2.1, ((k : Nat) : Int), ()) ∧ (w.2.2.1[k]).1 = id) (by
     rintro x ⟨rfl, g⟩
     exact ⟨_, by simp only [jx, ru, aD, cond_false], .inl ⟨rfl, fun k hk => g k hk hk⟩⟩) (by
     rintro k x hk ⟨rfl, g⟩
     simp only [jx, ru, ax hk, ak, cond_true, au, List.getElem?_eq_getElem hk, Option.bind_some, aG (show k < 4611686018427387904 by omega)]
     by_cases e : (w.2.2.1[k]).1 = id
     · rw [af e]; exact .inl ⟨_, rfl, .inr ⟨k, hk, rfl, e⟩⟩
     · rw [aj e]; refine .inr ⟨_, rfl, rfl, fun j hj F2 => ?_⟩
       by_cases e2 : j < k
       · exact g j hj e2
       · have : j = k := by omega
         subst this; exact e) ⟨rfl, fun j hj h => by omega⟩
 have he : aE jx (w.1, w.2.1, w.2.2.1, w.2.2.2.1, w.2.2.2.2.1, w.2.2.2.2.2.1, id, (0 : Int), ()) = some e := he; unfold j7; rw [he]; rcases hq with ⟨rfl, g⟩ | ⟨k, hk, rfl, g⟩
 · exact ⟨_, rfl, .inl ⟨rfl, g⟩⟩
 · exact ⟨_, rfl, .inr ⟨k, hk, rfl, g⟩⟩
theorem nO (w : bj) (h : w.2.2.1.length ≤ 1048576) {k : Nat} (hk : k < w.2.2.1.length) (m : cK) : eU w.1 w.2.1 w.2.2.1 w.2.2.2.1 w.2.2.2.2.1 w.2.2.2.2.2.1 ((k : Nat) : Int) m.1 m.2.1 m.2.2.1 m.2.2.2.1 m.2.2.2.2.1 m.2.2.2.2.2.1 m.2.2.2.2.2.2.1 m.2.2.2.2.2.2.2.1 m.2.2.2.2.2.2.2.2.1 m.2.2.2.2.2.2.2.2.2.1 m.2.2.2.2.2.2.2.2.2.2.1 m.2.2.2.2.2.2.2.2.2.2.2.1 m.2.2.2.2.2.2.2.2.2.2.2.2.1 m.2.2.2.2.2.2.2.2.2.2.2.2.2.1 m.2.2.2.2.2.2.2.2.2.2.2.2.2.2.1 m.2.2.2.2.2.2.2.2.2.2.2.2.2.2.2.1 = some ((nN w k m).1, (nN w k m).2.1, (nN w k m).2.2.1, (nN w k m).2.2.2.1, (nN w k m).2.2.2.2.1, (nN w k m).2.2.2.2.2.1, ()) := by
 unfold eU; simp only [aF (show (0 + w.2.2.1.length) * 208 ≤ lim by unfold lim; omega), ak, au, List.nil_append, fH hk, List.getElem?_eq_getElem hk, Option.bind_some, cond_true]; rfl
def fW (ms : List cK) (id : Int) (x : cH) : List lS := (ms.filter fun m => !decide (m.1 = id)).map fun m => (m.1, false, 0, 0, 0, 0, 0, [], x.1, x.2.1, x.2.2.1, x.2.2.2.1, ())
def dg (ms : List cK) (id : Int) (l : aK) : List lS := l.flatMap (fW ms id)
theorem FP (ms : List cK) (id : Int) (x : cH) {k : Nat} (hk : k < ms.length) : fW (ms.take (k + 1)) id x = fW (ms.take k) id x ++ (bif !decide (ms[k].1 = id) then [(ms[k].1, false, 0, 0, 0, 0, 0, [], x.1, x.2.1, x.2.2.1, x.2.2.2.1, ())] else []) := by
 unfold fW; rw [List.take_succ_eq_append_getElem hk, List.filter_append, List.map_append, List.filter_cons]
 cases decide (ms[k].1 = id) <;> rfl
theorem AN (ms : List cK) (id : Int) (x : cH) : (fW ms id x).length ≤ ms.length := by
 unfold fW; rw [List.length_map]; exact List.length_filter_le _ _
theorem C5 (ms : List cK) (id : Int) (l : aK) {k : Nat} (hk : k < l.length) : dg ms id (l.take (k + 1)) = dg ms id (l.take k) ++ fW ms id l[k] := by
 unfold dg; rw [List.take_succ_eq_append_getElem hk, List.flatMap_append]; simp
theorem lM (ms : List cK) (id : Int) (n : Nat) (hn : ms.length ≤ n) : (l : aK) → (dg ms id l).length ≤ n * l.length
 | [] => Nat.zero_le _
 | x :: l => by
   have h1 := AN ms id x; have h2 := lM ms id n hn l; show (fW ms id x ++ dg ms id l).length ≤ n * (l.length + 1); rw [List.length_append, Nat.mul_succ]; omega
theorem zR {ms : List cK} {id : Int} {l : aK} {f : lS} (h : f ∈ dg ms id l) : ∃ m ∈ ms, ∃ x ∈ l, m.1 ≠ id ∧ f = (m.1, false, 0, 0, 0, 0, 0, [], x.1, x.2.1, x.2.2.1, x.2.2.2.1, ()) := by
 unfold dg fW at h; obtain ⟨x, hx, h⟩ := List.mem_flatMap.1 h; obtain ⟨m, hm, rfl⟩ := List.mem_map.1 h; obtain ⟨hm, hn⟩ := List.mem_filter.1 hm; refine ⟨m, hm, x, hx, fun e => ?_, rfl⟩; rw [af e] at hn
 cases hn
theorem C6 (w : bj) (id : Int) (l : aK) (h1 : w.2.2.1.length ≤ 5) (h2 : w.2.2.2.1.length ≤ 1073741824) (h3 : l.length ≤ 1048576) : ku w.1 w.2.1 w.2.2.1 w.2.2.2.1 w.2.2.2.2.1 w.2.2.2.2.2.1 id l = some ((gu w (w.2.2.2.1 ++ dg w.2.2.1 id l)).1, (gu w (w.2.2.2.1 ++ dg w.2.2.1 id l)).2.1, (gu w (w.2.2.2.1 ++ dg w.2.2.1 id l)).2.2.1, (gu w (w.2.2.2.1 ++ dg w.2.2.1 id l)).2.2.2.1, (gu w (w.2.2.2.1 ++ dg w.2.2.1 id l)).2.2.2.2.1, (gu w (w.2.2.2.1 ++ dg w.2.2.1 id l)).2.2.2.2.2.1, ()) := by
 have inner : ∀ (fl : List lS) (i : Nat) (hi : i < l.length), fl.length ≤ 2147483648 → aE fw (w.1, w.2.1, w.2.2.1, w.2.2.2.1, w.2.2.2.2.1, w.2.2.2.2.2.1, id, l, fl, ((i : Nat) : Int), (0 : Int), ()) = some (.inl (w.1, w.2.1, w.2.2.1, w.2.2.2.1, w.2.2.2.2.1, w.2.2.2.2.2.1, id, l, fl ++ fW w.2.2.1 id l[i], ((i : Nat) : Int), ())) := by
   intro fl i hi hf; have l1 := cX (round := fw) (e := .inl (w.1, w.2.1, w.2.2.1, w.2.2.2.1, w.2.2.2.2.1, w.2.2.2.2.2.1, id, l, fl ++ fW w.2.2.1 id l[i], ((i : Nat) : Int), ())) w.2.2.1.length (fun k => (w.1, w.2.1, w.2.2.1, w.2.2.2.1, w.2.2.2.2.1, w.2.2.2.2.2.1, id, l, fl ++ fW (w.2.2.1.take k) id l[i], ((i : Nat) : Int), ((k : Nat) : Int), ())) (by
     simp only [fw, nZ, aD, cond_false, List.take_length]) (fun k hk => by
     have hb : Nat.ble (((fl ++ fW (w.2.2.1.take k) id l[i]).length + 1) * 120) lim = true := aF (by
       have := AN (w.2.2.1.take k) id l[i]; rw [List.length_take] at this; rw [List.length_append]; unfold lim; omega)
     rw [FP w.2.2.1 id l[i] hk]; simp only [fw, nZ, ax hk, ak, cond_true, au, List.getElem?_eq_getElem hk, List.getElem?_eq_getElem hi, Option.bind_some, aG (show k < 4611686018427387904 by omega), hb]
     cases decide ((w.2.2.1[k]).1 = id)
     · simp only [Bool.not_false, cond_true, List.append_assoc]
     · simp only [Bool.not_true, cond_false, List.append_nil])
   have l1 : aE fw (w.1, w.2.1, w.2.2.1, w.2.2.2.1, w.2.2.2.2.1, w.2.2.2.2.2.1, id, l, fl ++ fW (w.2.2.1.take 0) id l[i], ((i : Nat) : Int), (0 : Int), ()) = _ := l1
   rwa [show fW (w.2.2.1.take 0) id l[i] = [] from rfl, List.append_nil] at l1
 have l2 := cX (round := gF) (e := .inl (w.1, w.2.1, w.2.2.1, w.2.2.2.1, w.2.2.2.2.1, w.2.2.2.2.2.1, w.2.2.2.1 ++ dg w.2.2.1 id l, ())) l.length (fun k => (w.1, w.2.1, w.2.2.1, w.2.2.2.1, w.2.2.2.2.1, w.2.2.2.2.2.1, id, l, w.2.2.2.1 ++ dg w.2.2.1 id (l.take k), ((k : Nat) : Int), ())) (by
   simp only [gF, n4, aD, cond_false, List.take_length]) (fun k hk => by
   have hl := lM w.2.2.1 id 5 h1 (l.take k); rw [List.length_take] at hl; rw [C5 w.2.2.1 id l hk]; simp only [gF, n4, ax hk, cond_true, inner _ k hk (show (w.2.2.2.1 ++ dg w.2.2.1 id (l.take k)).length ≤ 2147483648 by rw [List.length_append]; omega), cg, Option.bind_some, aG (show k < 4611686018427387904 by omega), List.append_assoc])
 have l2 : aE gF (w.1, w.2.1, w.2.2.1, w.2.2.2.1, w.2.2.2.2.1, w.2.2.2.2.2.1, id, l, w.2.2.2.1 ++ dg w.2.2.1 id (l.take 0), (0 : Int), ()) = _ := l2; rw [show dg w.2.2.1 id (l.take 0) = [] from rfl, List.append_nil] at l2; unfold ku; simp only [aF (show (0 + w.2.2.2.1.length) * 120 ≤ lim by unfold lim; omega), cond_true, List.nil_append, l2, cg, Option.bind_some]; rfl
theorem vZ (a b : Nat) : Int.tmod ((a : Nat) : Int) ((b : Nat) : Int) = ((a % b : Nat) : Int) := rfl
noncomputable def iw (c : Int) (xs : cP) (id : Int) : Int := match bS c xs id with | some x => x.1 | none => 0
theorem QJ (c : Int) (xs : cP) (id : Int) (h : xs.length ≤ 1048576) : bS c xs id = some (iw c xs id, ()) := by
 have key : ∃ b, bS c xs id = some (b, ()) := by
   unfold bS; rw [(ld c xs h).1]
   cases CU c xs
   · exact ⟨0, rfl⟩
   obtain ⟨e, he, _⟩ := ev (round := cB) (x := (id, c, xs, ((0 : Nat) : Int), ())) xs.length (fun k x => x = (id, c, xs, ((k : Nat) : Int), ())) (fun _ => True) (by
       rintro x rfl
       exact ⟨.inl (), by simp only [cB, iG, aD, cond_false], trivial⟩) (by
       rintro k x hk rfl
       have hm : (k + 1) % xs.length < xs.length := Nat.mod_lt _ (by omega); simp only [cB, iG, ax hk, ak, cond_true, au, List.getElem?_eq_getElem hk, Option.bind_some, aG (show k < 4611686018427387904 by omega), vZ, List.getElem?_eq_getElem hm, aj (show ¬ ((List.length xs : Nat) : Int) = 0 by omega), cond_false]
       cases decide (xs[k].1 = id)
       · exact .inr ⟨_, rfl, rfl⟩
       · exact .inl ⟨_, rfl, trivial⟩) rfl
   have he : aE cB (id, c, xs, (0 : Int), ()) = some e := he; simp only [Option.bind_some, Bool.not_true, cond_false, he]
   cases e
   · exact ⟨_, rfl⟩
   · exact ⟨_, rfl⟩
 obtain ⟨b, h1⟩ := key; have : iw c xs id = b := by unfold iw; rw [h1]
 rw [this]; exact h1
def fD (to_ : Int) (t : jG) : lS := (to_, true, t.1, t.2.1, t.2.2.1, t.2.2.2.1, t.2.2.2.2.1, t.2.2.2.2.2.1, 0, 0, 0, ByteArray.empty, ())
theorem zS (w : bj) (id : Int) (t : jG) (h1 : w.2.1.length ≤ 1048576) (h2 : w.2.2.2.1.length ≤ 2147483648) (h3 : t.2.2.2.2.2.1.length ≤ 1048576) : ei w.1 w.2.1 w.2.2.1 w.2.2.2.1 w.2.2.2.2.1 w.2.2.2.2.2.1 id t.1 t.2.1 t.2.2.1 t.2.2.2.1 t.2.2.2.2.1 t.2.2.2.2.2.1 = some ((gu w (w.2.2.2.1 ++ [fD (iw w.1 w.2.1 id) t])).1, (gu w (w.2.2.2.1 ++ [fD (iw w.1 w.2.1 id) t])).2.1, (gu w (w.2.2.2.1 ++ [fD (iw w.1 w.2.1 id) t])).2.2.1, (gu w (w.2.2.2.1 ++ [fD (iw w.1 w.2.1 id) t])).2.2.2.1, (gu w (w.2.2.2.1 ++ [fD (iw w.1 w.2.1 id) t])).2.2.2.2.1, (gu w (w.2.2.2.1 ++ [fD (iw w.1 w.2.1 id) t])).2.2.2.2.2.1, ()) := by
 unfold ei; simp only [aF (show (0 + w.2.2.2.1.length) * 120 ≤ lim by unfold lim; omega), QJ w.1 w.2.1 id h1, (fU t.1 t.2.1 t.2.2.1 t.2.2.2.1 t.2.2.2.2.1 t.2.2.2.2.2.1 h3).1, Option.bind_some, cond_true, List.nil_append, aF (show (w.2.2.2.1.length + 1) * 120 ≤ lim by unfold lim; omega)]; rfl
def DL (m : cK) : aK := m.2.2.2.1.filter fun x => decide (x.2.1 = m.1)
def gq (m : cK) : jG := (m.2.2.2.2.2.2.2.2.2.2.1, m.2.2.2.2.2.2.2.2.2.2.2.1, m.2.2.2.2.2.2.2.2.2.2.2.2.1, m.2.2.2.2.2.2.2.2.2.2.2.2.2.1, m.2.2.2.2.2.2.2.2.2.2.2.2.2.2.1, m.2.2.2.2.2.2.2.2.2.2.2.2.2.2.2.1, ())
noncomputable def rD (w : bj) (m : cK) : bj := gu w (w.2.2.2.1 ++ [fD (iw w.1 w.2.1 m.1) (gq m)] ++ dg w.2.2.1 m.1 (DL m))
theorem EB (w : bj) {k : Nat} (hk : k < w.2.2.1.length) (h1 : w.2.2.1.length ≤ 5) (h2 : w.2.2.2.1.length ≤ 1073741823) (h3 : w.2.1.length ≤ 1048576) (h4 : (w.2.2.1[k]).2.2.2.1.length ≤ 1048576) (h5 : (w.2.2.1[k]).2.2.2.2.2.2.2.2.2.2.2.2.2.2.2.1.length ≤ 1048576) :
   ig w.1 w.2.1 w.2.2.1 w.2.2.2.1 w.2.2.2.2.1 w.2.2.2.2.2.1 ((k : Nat) : Int) = (bif m6 (gq w.2.2.1[k]) then some ((1 : Int), w.1, w.2.1, w.2.2.1, w.2.2.2.1, w.2.2.2.2.1, w.2.2.2.2.2.1, ()) else some ((0 : Int), (rD w w.2.2.1[k]).1, (rD w w.2.2.1[k]).2.1, (rD w w.2.2.1[k]).2.2.1, (rD w w.2.2.1[k]).2.2.2.1, (rD w w.2.2.1[k]).2.2.2.2.1, (rD w w.2.2.1[k]).2.2.2.2.2.1, ())) := by
 generalize hm : w.2.2.1[k] = m at *; have l1 := cX (round := gi) (e := .inl (w.1, w.2.1, w.2.2.1, w.2.2.2.1, w.2.2.2.2.1, w.2.2.2.2.2.1, m.1, m.2.1, m.2.2.1, m.2.2.2.1, m.2.2.2.2.1, m.2.2.2.2.2.1, m.2.2.2.2.2.2.1, m.2.2.2.2.2.2.2.1, m.2.2.2.2.2.2.2.2.1, m.2.2.2.2.2.2.2.2.2.1, m.2.2.2.2.2.2.2.2.2.2.1, m.2.2.2.2.2.2.2.2.2.2.2.1, m.2.2.2.2.2.2.2.2.2.2.2.2.1, m.2.2.2.2.2.2.2.2.2.2.2.2.2.1, m.2.2.2.2.2.2.2.2.2.2.2.2.2.2.1, m.2.2.2.2.2.2.2.2.2.2.2.2.2.2.2.1, DL m, ())) m.2.2.2.1.length (fun i => (w.1, w.2.1, w.2.2.1, w.2.2.2.1, w.2.2.2.2.1, w.2.2.2.2.2.1, m.1, m.2.1, m.2.2.1, m.2.2.2.1, m.2.2.2.2.1, m.2.2.2.2.2.1, m.2.2.2.2.2.2.1, m.2.2.2.2.2.2.2.1, m.2.2.2.2.2.2.2.2.1, m.2.2.2.2.2.2.2.2.2.1, m.2.2.2.2.2.2.2.2.2.2.1, m.2.2.2.2.2.2.2.2.2.2.2.1, m.2.2.2.2.2.2.2.2.2.2.2.2.1, m.2.2.2.2.2.2.2.2.2.2.2.2.2.1, m.2.2.2.2.2.2.2.2.2.2.2.2.2.2.1, m.2.2.2.2.2.2.2.2.2.2.2.2.2.2.2.1, (m.2.2.2.1.take i).filter (fun x => decide (x.2.1 = m.1)), ((i : Nat) : Int), ())) (by
   simp only [gi, mU, aD, cond_false, List.take_length]; rfl) (fun i hi => by
   have hb : Nat.ble ((((m.2.2.2.1.take i).filter (fun x => decide (x.2.1 = m.1))).length + 1) * 40) lim = true := aF (by
     have := List.length_filter_le (fun x : cH => decide (x.2.1 = m.1)) (m.2.2.2.1.take i); rw [List.length_take] at this; unfold lim; omega)
   rw [List.take_succ_eq_append_getElem hi, List.filter_append, List.filter_cons]; simp only [gi, mU, ax hi, ak, cond_true, au, List.getElem?_eq_getElem hi, Option.bind_some, aG (show i < 4611686018427387904 by omega), hb]
   by_cases e : (m.2.2.2.1[i]).2.1 = m.1
   · rw [af e]; rfl
   · rw [aj e]; simp only [cond_false]; rw [if_neg (by decide)]; simp)
 have l1 : aE gi (w.1, w.2.1, w.2.2.1, w.2.2.2.1, w.2.2.2.2.1, w.2.2.2.2.2.1, m.1, m.2.1, m.2.2.1, m.2.2.2.1, m.2.2.2.2.1, m.2.2.2.2.2.1, m.2.2.2.2.2.2.1, m.2.2.2.2.2.2.2.1, m.2.2.2.2.2.2.2.2.1, m.2.2.2.2.2.2.2.2.2.1, m.2.2.2.2.2.2.2.2.2.2.1, m.2.2.2.2.2.2.2.2.2.2.2.1, m.2.2.2.2.2.2.2.2.2.2.2.2.1, m.2.2.2.2.2.2.2.2.2.2.2.2.2.1, m.2.2.2.2.2.2.2.2.2.2.2.2.2.2.1, m.2.2.2.2.2.2.2.2.2.2.2.2.2.2.2.1, [], (0 : Int), ()) = _ := l1; unfold ig; have hb : eg m.2.2.2.2.2.2.2.2.2.2.1 m.2.2.2.2.2.2.2.2.2.2.2.1 m.2.2.2.2.2.2.2.2.2.2.2.2.1 m.2.2.2.2.2.2.2.2.2.2.2.2.2.1 m.2.2.2.2.2.2.2.2.2.2.2.2.2.2.1 m.2.2.2.2.2.2.2.2.2.2.2.2.2.2.2.1 = some (m6 (gq m), ()) := (qo (gq m)).1; simp only [ak, cond_true, au, List.getElem?_eq_getElem hk, hm, Option.bind_some, hb]
 cases m6 (gq m)
 · have t1 : ei w.1 w.2.1 w.2.2.1 w.2.2.2.1 w.2.2.2.2.1 w.2.2.2.2.2.1 m.1 m.2.2.2.2.2.2.2.2.2.2.1 m.2.2.2.2.2.2.2.2.2.2.2.1 m.2.2.2.2.2.2.2.2.2.2.2.2.1 m.2.2.2.2.2.2.2.2.2.2.2.2.2.1 m.2.2.2.2.2.2.2.2.2.2.2.2.2.2.1 m.2.2.2.2.2.2.2.2.2.2.2.2.2.2.2.1 = _ := zS w m.1 (gq m) h3 (by omega) h5; have t2 := C6 (gu w (w.2.2.2.1 ++ [fD (iw w.1 w.2.1 m.1) (gq m)])) m.1 (DL m) h1 (by show (w.2.2.2.1 ++ [_]).length ≤ _; rw [List.length_append, List.length_singleton]; omega) (Nat.le_trans (List.length_filter_le _ _) h4); simp only [cond_false, l1, cg, t1, Option.bind_some, t2]; rfl
 · rfl
structure Mo (f : lS) : Prop where
 tok : f.2.1 = true → yX (f.2.2.1, f.2.2.2.1, f.2.2.2.2.1, f.2.2.2.2.2.1, f.2.2.2.2.2.2.1, f.2.2.2.2.2.2.2.1, ())
 item : f.2.1 = false → kS (f.2.2.2.2.2.2.2.2.1, f.2.2.2.2.2.2.2.2.2.1, f.2.2.2.2.2.2.2.2.2.2.1, f.2.2.2.2.2.2.2.2.2.2.2.1, ())
 vK : f.2.2.2.2.2.2.2.1.length ≤ 20
structure ea (n : Nat) (c : Int) (ms : cP) (w : bj) : Prop where
 ring : lK c ms
 self : w.1 = c ∧ w.2.1 = ms
 len : w.2.2.1.length = ms.length
 ids : ∀ k (hk : k < w.2.2.1.length) (hm : k < ms.length), (w.2.2.1[k]).1 = ms[k].1
 m8 : ∀ m ∈ w.2.2.1, oE m ∧ m.2.1 = c ∧ m.2.2.1 = ms
 uc : ∀ f ∈ w.2.2.2.1, Mo f
 vK : w.2.2.2.1.length ≤ 400 * (n + 1)
 heard : w.2.2.2.2.1.length = ms.length
 list : ∀ h ∈ w.2.2.2.2.1, h.1.length ≤ 60 * n
 said : (∀ x ∈ w.2.2.2.2.2.1, kS x) ∧ w.2.2.2.2.2.1.length ≤ 63 * n
theorem ea.up {n n' : Nat} {c : Int} {ms : cP} {w : bj} (h : ea n c ms w) (hn : n ≤ n') : ea n' c ms w :=
 { h with vK := by have := h.vK; omega, list := fun x hx => by have := h.list x hx; omega, said := ⟨h.said.1, by have := h.said.2; omega⟩ }
theorem ea.kT {n : Nat} {c : Int} {ms : cP} {w : bj} (h : ea n c ms w) {k : Nat} (hk : k < w.2.2.1.length) {m : cK} (hm : oE m) (h1 : m.1 = (w.2.2.1[k]).1) (h2 : m.2.1 = (w.2.2.1[k]).2.1) (h3 : m.2.2.1 = (w.2.2.1[k]).2.2.1) : ea n c ms (nN w k m) :=
 { h with
   len := by show (w.2.2.1.set k m).length = _; rw [List.length_set]; exact h.len
   ids := fun j hj Aa => by
     have hj : j < (w.2.2.1.set k m).length := hj; show ((w.2.2.1.set k m)[j]).1 = _; rw [List.getElem_set]; rw [List.length_set] at hj
     split
     · rename_i e; subst e; rw [h1]; exact h.ids k hk Aa
     · exact h.ids j hj Aa
   m8 := fun x hx => by
     have hx : x ∈ w.2.2.1.set k m := hx; rcases List.mem_or_eq_of_mem_set hx with hx | rfl
     · exact h.m8 x hx
     · have := h.m8 _ (List.getElem_mem hk); exact ⟨hm, h2.trans this.2.1, h3.trans this.2.2⟩ }
theorem ea.uj {n : Nat} {c : Int} {ms : cP} {w : bj} (h : ea n c ms w) {l : List lS} (h1 : ∀ f ∈ l, Mo f) (h2 : l.length ≤ 400 * (n + 1)) : ea n c ms (gu w l) := { h with uc := h1, vK := h2 }
theorem C7 {a : Int} {t : jG} (h : yX t) : Mo (fD a t) := ⟨fun _ => h, fun e => (by cases e), h.2.2.2.2.2.1⟩
theorem EC {ms : List cK} {id : Int} {l : aK} (h : ∀ x ∈ l, kS x) : ∀ f ∈ dg ms id l, Mo f := by
 intro f hf; obtain ⟨m, _, x, hx, _, rfl⟩ := zR hf; exact ⟨fun e => (by cases e), fun _ => h x hx, Nat.zero_le _⟩
theorem ea.A4 {n : Nat} {c : Int} {ms : cP} {w : bj} (h : ea n c ms w) : w.2.2.1.length ≤ 5 ∧ w.2.1.length ≤ 5 ∧ ms.length ≤ 5 := by
 have := h.ring.2.1.2; have := h.len; rw [h.self.2]; omega
theorem C8 {m : cK} (hm : oE m) {x : cH} (hx : kS x) : oE (pA m (lR m.2.2.2.1 x)) := by
 have hi := (cf _ hm.items).1; have hp := CW hm.items hx; have Ve := (cf _ hp).1; have ha : dw m.2.2.2.1 ≤ dw (lR m.2.2.2.1 x) := HH (by omega) (by omega) fun r hr => ⟨r, zQ hr, rfl⟩
 exact { hm with
   items := hp
   line := ⟨hm.line.1, by have := hm.line.2; show m.2.2.2.2.2.2.2.2.1 ≤ ((dw (lR m.2.2.2.1 x) : Nat) : Int); omega⟩
   heard := ⟨hm.heard.1, by have := hm.heard.2; show m.2.2.2.2.2.2.2.2.2.1 ≤ ((dw (lR m.2.2.2.1 x) : Nat) : Int); omega⟩ }
theorem zT {m : cK} (hm : oE m) {x : cH} (hx : kS x) : oF m x = pA m (lR m.2.2.2.1 x) := by
 have hi := (cf _ hm.items).1; unfold oF Mm; rw [(xI m (Nat.le_trans hm.small (by decide))).2.2.2 hm, (vG _ (by omega)).2.2.2 hm.items, (yW x).2.2.2 hx]; rfl
end Go.TM
set_option linter.unusedSimpArgs false
set_option linter.unusedVariables false
namespace Go.TM
open Go
theorem HN {ms : cP} (h : JF ms ms.length) {i j : Nat} (hj : j < ms.length) (Pp : i < j) : (ms[i]'(by omega)).1 < ms[j].1 := by
 have key : ∀ (d i : Nat) (hi : i + d + 1 < ms.length), ms[i].1 < ms[i + d + 1].1 := by
   intro d
   induction d with
   | zero => intro i hi; exact (h (i + 1) hi hi).2 (by omega)
   | succ d ih =>
     intro i hi; have h1 := ih i (by omega); have h2 := (h (i + (d + 1) + 1) hi hi).2 (by omega); have e : i + (d + 1) + 1 - 1 = i + d + 1 := by omega
     simp only [e] at h2; omega
 have := key (j - i - 1) i (by omega); simpa [show i + (j - i - 1) + 1 = j by omega] using this
theorem FQ {ms : cP} (h : JF ms ms.length) {i j : Nat} (hi : i < ms.length) (hj : j < ms.length) (e : ms[i].1 = ms[j].1) : i = j := by
 by_cases h1 : i < j
 · have := HN h hj h1; omega
 by_cases h2 : j < i
 · have := HN h hi h2; omega
 omega
theorem O5 {c : Int} {ms : cP} (hr : lK c ms) {k : Nat} (hk : k < ms.length) (hm : (k + 1) % ms.length < ms.length) : iw c ms ms[k].1 = ms[(k + 1) % ms.length].1 := by
 have hl := hr.2.1.2; have h := (ld c ms (by omega)).1; rw [(ld c ms (by omega)).2.2.2 hr] at h; obtain ⟨e, he, hq⟩ := ev (round := cB) (x := (ms[k].1, c, ms, ((0 : Nat) : Int), ())) ms.length (fun j x => x = (ms[k].1, c, ms, ((j : Nat) : Int), ()) ∧ j ≤ k) (fun e => e = .inr (ms[(k + 1) % ms.length].1, ())) (by
     rintro x ⟨_, g⟩
     omega) (by
     rintro j x hj ⟨rfl, g⟩
     simp only [cB, iG, ax hj, ak, cond_true, au, List.getElem?_eq_getElem hj, Option.bind_some, aG (show j < 4611686018427387904 by omega), vZ, aj (show ¬ ((List.length ms : Nat) : Int) = 0 by omega), cond_false]
     by_cases e : ms[j].1 = ms[k].1
     · have := FQ hr.2.2 hj hk e; subst this; rw [af e, List.getElem?_eq_getElem hm]; exact .inl ⟨_, rfl, rfl⟩
     · rw [aj e]; refine .inr ⟨_, rfl, rfl, ?_⟩
       by_cases e2 : j = k
       · subst e2; exact absurd rfl e
       · omega) ⟨rfl, Nat.zero_le _⟩
 have he : aE cB (ms[k].1, c, ms, (0 : Int), ()) = some e := he; subst hq; unfold iw bS; rw [h]; simp only [Option.bind_some, Bool.not_true, cond_false, he, cg]
structure C9 (R : Nat) (S : Int) (ms : cP) (f : lS) : Prop where
 tok : f.2.1 = true → ∃ r : Nat, 1 ≤ r ∧ r ≤ R ∧ f.2.2.2.1 = ((r : Nat) : Int) ∧ (∃ x, ms[(r - 1) % ms.length]? = some x ∧ f.1 = x.1) ∧ (r = R → f.2.2.2.2.1 = S)
 item : f.2.1 = false → f.2.2.2.2.2.2.2.2.1 ≤ S
structure sm (R : Nat) (S : Int) (len k : Nat) (m : cK) : Prop where
 items : ∀ x ∈ m.2.2.2.1, x.1 ≤ S
 last : ∃ q : Nat, m.2.2.2.2.2.2.1 = ((q : Nat) : Int) ∧ q < R ∧ (∀ r, 1 ≤ r → r < R → (r - 1) % len = k → r ≤ q) ∧ (Blank (gq m) ∨ (1 ≤ q ∧ (q - 1) % len = k ∧ (gq m).2.1 = ((q + 1 : Nat) : Int) ∧ (q + 1 = R → (gq m).2.2.1 = S)))
structure qL (R : Nat) (S : Int) (ms : cP) (w : bj) : Prop where
 uc : ∀ f ∈ w.2.2.2.1, C9 R S ms f
 kT : ∀ k (hk : k < w.2.2.1.length), sm R S ms.length k w.2.2.1[k]
 said : ∀ x ∈ w.2.2.2.2.2.1, x.1 ≤ S
theorem qL.ED {R : Nat} {S : Int} {ms : cP} {w : bj} (h : qL R S ms w) {k : Nat} (hk : k < w.2.2.1.length) {m : cK} (hm : sm R S ms.length k m) : qL R S ms (nN w k m) :=
 { uc := h.uc
   said := h.said
   kT := fun j hj => by
     have hj : j < (w.2.2.1.set k m).length := hj; show sm R S ms.length j (w.2.2.1.set k m)[j]; rw [List.getElem_set]; rw [List.length_set] at hj
     split
     · rename_i e; subst e; exact hm
     · exact h.kT j hj }
theorem qL.uj {R : Nat} {S : Int} {ms : cP} {w : bj} (h : qL R S ms w) {l : List lS} (hl : ∀ f ∈ l, C9 R S ms f) : qL R S ms (gu w l) := { uc := hl, kT := h.kT, said := h.said }
theorem sm.same {R : Nat} {S : Int} {len k : Nat} {m m' : cK} (h : sm R S len k m) (h1 : m'.2.2.2.1 = m.2.2.2.1) (h2 : m'.2.2.2.2.2.2.1 = m.2.2.2.2.2.2.1) (h3 : gq m' = gq m) : sm R S len k m' := ⟨h1 ▸ h.items, by rw [h2, h3]; exact h.last⟩
theorem RN {R : Nat} {S : Int} {ms : cP} {mt : List cK} {id : Int} {l : aK} (h : ∀ x ∈ l, x.1 ≤ S) : ∀ f ∈ dg mt id l, C9 R S ms f := by
 intro f hf; obtain ⟨m, _, x, hx, _, rfl⟩ := zR hf; exact ⟨fun e => (by cases e), fun _ => h x hx⟩
theorem O6 {n q k : Nat} (h1 : 1 ≤ q) (h : (q - 1) % n = k) : (q + 1 - 1) % n = (k + 1) % n := by
 have : q = (q - 1) + 1 := by omega
 rw [Nat.add_sub_cancel, ← h, Nat.mod_add_mod, ← this]
theorem Zq {R : Nat} {S : Int} {c : Int} {ms : cP} (hr : lK c ms) {k : Nat} (hk : k < ms.length) {t : jG} {q : Nat} (h1 : 1 ≤ q) (hq : (q - 1) % ms.length = k) (hR : q + 1 ≤ R) (h2 : t.2.1 = ((q + 1 : Nat) : Int)) (h3 : q + 1 = R → t.2.2.1 = S) : C9 R S ms (fD (iw c ms ms[k].1) t) := by
 have hm : (k + 1) % ms.length < ms.length := Nat.mod_lt _ (by omega); refine ⟨fun _ => ⟨q + 1, by omega, hR, h2, ⟨ms[(k + 1) % ms.length], ?_, ?_⟩, h3⟩, fun e => (by cases e)⟩
 · rw [O6 h1 hq]; exact List.getElem?_eq_getElem hm
 · exact O5 hr hk hm
theorem EE {R : Nat} {S : Int} {n : Nat} {c : Int} {ms : cP} {w : bj} (h : ea n c ms w) (hR : qL R S ms w) {k : Nat} (hk : k < w.2.2.1.length) (hb : ¬ Blank (gq w.2.2.1[k])) : qL R S ms (rD w w.2.2.1[k]) := by
 have mL : k < ms.length := by rw [← h.len]; exact hk
 obtain ⟨q, q1, q2, q3, q4⟩ := (hR.kT k hk).last; refine hR.uj fun f hf => ?_
 rcases List.mem_append.1 hf with hf | hf
 · rcases List.mem_append.1 hf with hf | hf
   · exact hR.uc f hf
   · rw [List.mem_singleton] at hf; subst hf; rcases q4 with q4 | ⟨g1, g2, g3, g4⟩
     · exact absurd q4 hb
     · rw [h.self.1, h.self.2, h.ids k hk mL]; exact Zq h.ring mL g1 g2 (by omega) g3 g4
 · exact RN (fun x hx => (hR.kT k hk).items x (List.mem_filter.1 hx).1) f hf
theorem EF {R : Nat} {S : Int} {len k : Nat} {m : cK} (h : sm R S len k m) {x : cH} (hx : x.1 ≤ S) : sm R S len k (pA m (lR m.2.2.2.1 x)) :=
 ⟨fun y hy => by
   have hy : y ∈ lR m.2.2.2.1 x := hy; rcases vI hy with rfl | hy
   · exact hx
   · exact h.items y hy, h.last⟩
theorem EG {R : Nat} {S : Int} {n : Nat} {c : Int} {ms : cP} {w : bj} (h : ea n c ms w) (hR : qL R S ms w) {f : lS} (hf : C9 R S ms f) (ht : f.2.1 = true) {k : Nat} (hk : k < w.2.2.1.length) (rR : (w.2.2.1[k]).1 = f.1) (hr : (w.2.2.1[k]).2.2.2.2.2.2.1 < f.2.2.2.1) : 1 ≤ R ∧ (R - 1) % ms.length = k ∧ f.2.2.2.1 = ((R : Nat) : Int) ∧ f.2.2.2.2.1 = S := by
 have mL : k < ms.length := by rw [← h.len]; exact hk
 obtain ⟨r, r1, r2, r3, ⟨x, x1, x2⟩, r4⟩ := hf.tok ht; obtain ⟨q, q1, q2, q3, _⟩ := (hR.kT k hk).last; have hm : (r - 1) % ms.length < ms.length := Nat.mod_lt _ (by omega); rw [List.getElem?_eq_getElem hm] at x1; injection x1 with x1; have hi : (r - 1) % ms.length = k := FQ h.ring.2.2 hm mL (by rw [x1, ← x2, ← rR, h.ids k hk mL])
 by_cases e : r < R
 · have := q3 r r1 e hi; omega
 · have : r = R := by omega
   subst this; exact ⟨r1, hi, r3, r4 rfl⟩
def FR (ms : cP) (w w' : bj) : Prop := ∀ R S, qL R S ms w → ∃ R' S', qL R' S' ms w'
theorem C9.up {R : Nat} {S : Int} {ms : cP} {f : lS} (h : C9 R S ms f) {j : Nat} : C9 (R + 1) (S + ((j : Nat) : Int)) ms f :=
 ⟨fun e => by
   obtain ⟨r, r1, r2, r3, r4, _⟩ := h.tok e; exact ⟨r, r1, by omega, r3, r4, fun h => by omega⟩, fun e => by have := h.item e; omega⟩
end Go.TM
