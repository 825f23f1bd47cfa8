/- What saying, hearing and holding keep; a member that has all. -/
import Derived.Test.YtiljcjnnhkidbaaBPSay1
set_option linter.unusedSimpArgs false
set_option linter.unusedVariables false
namespace Go.TM
open Go
theorem may_iff {m : MatR} (hm : MatQ m) {level : Int} {text : ByteArray} (hl : 1 ≤ level ∧ level ≤ 2) (ht : ByteArray.size text ≤ 60) (hn : m.2.2.2.2.2.1.length < 20) : sayR m level text = (saidR m level text, true) := by
 have hb := (mat_ok m (Nat.le_trans hm.small (by decide))).2.2.2 hm; unfold sayR mayB; rw [hb, dec_true hl.1, dec_true hl.2, dec_true ht, dec_true hn]; rfl
def FromOne (l : ItemL) : Prop := ∀ k (hk : k < l.length), l[k].1 = ((k + 1 : Nat) : Int)
theorem from_aru {l : ItemL} (h : FromOne l) (hl : l.length ≤ 1048576) : aruOf l = l.length := by
 obtain ⟨a0, _, a2⟩ := (aru_ok l hl).2.2
 by_cases e : aruOf l < l.length
 · have h1 := h _ e; have : (itemAt l ((aruOf l + 1 : Nat) : Int)).isSome = true := by
     unfold itemAt; rw [List.find?_isSome]; exact ⟨l[aruOf l], List.getElem_mem e, by simp [h1]⟩
   rw [a2] at this
   cases this
 · omega
theorem from_has {l : ItemL} (h : FromOne l) {s : Int} (h1 : 1 ≤ s) (h2 : s ≤ ((l.length : Nat) : Int)) : hasB l s = true := by
 obtain ⟨k, rfl⟩ := Int.eq_ofNat_of_zero_le (show 0 ≤ s by omega); have hk : k - 1 < l.length := by omega
 refine has_iff.2 ⟨l[k - 1], List.getElem_mem hk, ?_⟩; rw [h _ hk]; omega
theorem putR_end {f : ItemR} : {xs : ItemL} → (∀ x ∈ xs, x.1 < f.1) → putR xs f = xs ++ [f]
 | [], _ => rfl
 | x :: xs, h => by
   have h1 := h x List.mem_cons_self; have ih := putR_end (f := f) (xs := xs) fun y hy => h y (List.mem_cons_of_mem _ hy)
   unfold putR; rw [if_pos h1, ih]; rfl
theorem putAll_end : (fs : ItemL) → {xs : ItemL} → (∀ f ∈ fs, ∀ x ∈ xs, x.1 < f.1) → fs.Pairwise (fun a b => a.1 < b.1) → putAll xs fs = xs ++ fs
 | [], xs, _, _ => (List.append_nil xs).symm
 | f :: fs, xs, h, hp => by
   rw [List.pairwise_cons] at hp; show putAll (putR xs f) fs = _; rw [putR_end (h f List.mem_cons_self), putAll_end fs (fun g hg x hx => ?_) hp.2, List.append_assoc]
   · rfl
   · rcases List.mem_append.1 hx with hx | hx
     · exact h g (List.mem_cons_of_mem _ hg) x hx
     · rw [List.mem_singleton] at hx; subst hx; exact hp.1 g hg
theorem numItems_get {c2 d : Int} {lv : MemL} {tx : List (ByteArray × Unit)} {m k : Nat} (hk : k < (numItems c2 d lv tx m).length) : (numItems c2 d lv tx m)[k] = numItem c2 d lv tx k := by
 simp [numItems]
theorem numItems_mem {c2 d : Int} {lv : MemL} {tx : List (ByteArray × Unit)} {m : Nat} {f : ItemR} (hf : f ∈ numItems c2 d lv tx m) : ∃ k, k < m ∧ f = numItem c2 d lv tx k := by
 obtain ⟨k, hk, rfl⟩ := List.mem_iff_getElem.1 hf; rw [numItems_len] at hk; exact ⟨k, hk, numItems_get _⟩
theorem numItems_pair {c2 d : Int} {lv : MemL} {tx : List (ByteArray × Unit)} (m : Nat) : (numItems c2 d lv tx m).Pairwise (fun a b => a.1 < b.1) := by
 rw [List.pairwise_iff_getElem]; intro i j hi hj hij; rw [numItems_get, numItems_get]; show c2 + ((i + 1 : Nat) : Int) < c2 + ((j + 1 : Nat) : Int); omega
def withHeard (m : MatR) (v : Int) : MatR := (m.1, m.2.1, m.2.2.1, m.2.2.2.1, m.2.2.2.2.1, m.2.2.2.2.2.1, m.2.2.2.2.2.2.1, m.2.2.2.2.2.2.2.1, m.2.2.2.2.2.2.2.2.1, v, m.2.2.2.2.2.2.2.2.2.2)
theorem hear_ok {m : MatR} (hm : MatQ m) : ∃ (k : Nat) (n : MatR), n = withHeard m (m.2.2.2.2.2.2.2.2.2.1 + ((k : Nat) : Int)) ∧ impl_Hear m.1 m.2.1 m.2.2.1 m.2.2.2.1 m.2.2.2.2.1 m.2.2.2.2.2.1 m.2.2.2.2.2.2.1 m.2.2.2.2.2.2.2.1 m.2.2.2.2.2.2.2.2.1 m.2.2.2.2.2.2.2.2.2.1 m.2.2.2.2.2.2.2.2.2.2.1 m.2.2.2.2.2.2.2.2.2.2.2.1 m.2.2.2.2.2.2.2.2.2.2.2.2.1 m.2.2.2.2.2.2.2.2.2.2.2.2.2.1 m.2.2.2.2.2.2.2.2.2.2.2.2.2.2.1 m.2.2.2.2.2.2.2.2.2.2.2.2.2.2.2.1 = some (n.1, n.2.1, n.2.2.1, n.2.2.2.1, n.2.2.2.2.1, n.2.2.2.2.2.1, n.2.2.2.2.2.2.1, n.2.2.2.2.2.2.2.1, n.2.2.2.2.2.2.2.2.1, n.2.2.2.2.2.2.2.2.2.1, n.2.2.2.2.2.2.2.2.2.2.1, n.2.2.2.2.2.2.2.2.2.2.2.1, n.2.2.2.2.2.2.2.2.2.2.2.2.1, n.2.2.2.2.2.2.2.2.2.2.2.2.2.1, n.2.2.2.2.2.2.2.2.2.2.2.2.2.2.1, n.2.2.2.2.2.2.2.2.2.2.2.2.2.2.2.1, heardL m.2.2.2.1 m.2.2.2.2.2.2.2.2.2.1 k, ()) ∧ spec_Hear m.1 m.2.1 m.2.2.1 m.2.2.2.1 m.2.2.2.2.1 m.2.2.2.2.2.1 m.2.2.2.2.2.2.1 m.2.2.2.2.2.2.2.1 m.2.2.2.2.2.2.2.2.1 m.2.2.2.2.2.2.2.2.2.1 m.2.2.2.2.2.2.2.2.2.2.1 m.2.2.2.2.2.2.2.2.2.2.2.1 m.2.2.2.2.2.2.2.2.2.2.2.2.1 m.2.2.2.2.2.2.2.2.2.2.2.2.2.1 m.2.2.2.2.2.2.2.2.2.2.2.2.2.2.1 m.2.2.2.2.2.2.2.2.2.2.2.2.2.2.2.1 = some (n.1, n.2.1, n.2.2.1, n.2.2.2.1, n.2.2.2.2.1, n.2.2.2.2.2.1, n.2.2.2.2.2.2.1, n.2.2.2.2.2.2.2.1, n.2.2.2.2.2.2.2.2.1, n.2.2.2.2.2.2.2.2.2.1, n.2.2.2.2.2.2.2.2.2.2.1, n.2.2.2.2.2.2.2.2.2.2.2.1, n.2.2.2.2.2.2.2.2.2.2.2.2.1, n.2.2.2.2.2.2.2.2.2.2.2.2.2.1, n.2.2.2.2.2.2.2.2.2.2.2.2.2.2.1, n.2.2.2.2.2.2.2.2.2.2.2.2.2.2.2.1, heardL m.2.2.2.1 m.2.2.2.2.2.2.2.2.2.1 k, ()) ∧ MatQ n ∧
   m.2.2.2.2.2.2.2.2.2.1 + ((k : Nat) : Int) ≤ ((aruOf m.2.2.2.1 : Nat) : Int) ∧ (∀ j, j < k → ¬ Waits m.2.2.2.1 m.2.2.2.2.2.2.2.2.1 (m.2.2.2.2.2.2.2.2.2.1 + ((j + 1 : Nat) : Int))) ∧ (m.2.2.2.2.2.2.2.2.2.1 + ((k : Nat) : Int) < ((aruOf m.2.2.2.1 : Nat) : Int) → Waits m.2.2.2.1 m.2.2.2.2.2.2.2.2.1 (m.2.2.2.2.2.2.2.2.2.1 + ((k + 1 : Nat) : Int))) := by
 have hw := hm.small; have hb := (mat_ok m (Nat.le_trans hw (by decide))).2.2.2 hm; obtain ⟨k, v, h1, h2, h3, _, h5⟩ := hear_val m (Nat.le_trans hw (by decide)); subst h3; obtain ⟨g1, g2, g3⟩ := h5 hb; have hh := hm.heard; exact ⟨k, _, rfl, h2, h1, { ring := hm.ring, mem := hm.mem, items := hm.items, texts := hm.texts, lev := hm.lev, short := hm.short, round := hm.round, seen := hm.seen, line := hm.line, heard := ⟨by show 0 ≤ m.2.2.2.2.2.2.2.2.2.1 + ((k : Nat) : Int); omega, g1⟩, last := hm.last }, g1, g2, g3⟩
end Go.TM
