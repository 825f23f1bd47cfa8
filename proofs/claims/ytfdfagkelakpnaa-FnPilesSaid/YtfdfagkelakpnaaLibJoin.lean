/- strings.Join, of the kit's library of contracts, as a function of the tree machine. -/
import Derived.Test.YtfdfagkelakpnaaTm3
import Derived.Shelf.Strings.OnBuilder
set_option linter.unusedSimpArgs false
set_option linter.unusedVariables false
namespace Go.TM
open Go Go.RowKit Go.Proofs Go.Shelf

def AP.isVal : AP → Bool
  | .val _ _ => true
  | _ => false

/-- A function of the library that hands back one value, and leaves what stood as it was. -/
theorem known_pure {P : Program} {f : FuncId} {ps : List AP} {q : OP} {t : denR (headRT (ps.map some)) → Option (denR (resRT [{ src := .tmp 0, agg := false, ps := [q] }] (extRT ps)))} (hps : extRT ps = .nil) (hval : ps.all AP.isVal = true) (hfn : ∃ fn, P.funcs[f]? = some fn ∧ (fn.name == "runtime.NumGoroutine") = false ∧ fn.body.isNone = false)
    (h : ∀ (c : Cz) (w : World) (args : Array Value) (x : denR (headRT (ps.map some))) y, ps.length = args.size → (∀ k av, (heads (ps.map some) x)[k]? = some (some av) → ∃ v, args.toList[k]? = some v ∧ HoldA c w k (fun _ => .nil) av v) → (∀ b l, c.own b = some l → b < w.heap.size) → t x = some y →
      Calls P f args w fun e w' => (∃ v, e = .returned v ∧ HoldL Cz.free w' .pres 0 (opsOV [q] (extRT ps) y).1 [v] ∧ q.isOwn = false ∧ (match q with | .shr _ => False | _ => True)) ∧ Below w.heap.size w w') : Known P f (semOf ps [{ src := .tmp 0, agg := false, ps := [q] }] t) := by
  refine ⟨?_, hfn⟩
  intro c w mu lc avs args A y hH hA hs ho
  unfold semOf at hs
  cases hx : castAs ps avs with
  | none => rw [hx] at hs; cases hs
  | some x =>
    rw [hx] at hs
    simp only [Option.some.injEq] at hs
    subst hs
    have hty : t x = some y := ho
    obtain ⟨l1, l2, hold⟩ := castAs_ok ps 0 avs args.toList hx hA
    have hvals : ∀ (k : Nat) (av : AV), (heads (ps.map some) x)[k]? = some (some av) → ∃ (ag : Bool) (os : List OV), av = AV.val ag os := by
      have key : ∀ (l : List AP) (z : denR (headRT (l.map some))), l.all AP.isVal = true → ∀ (k : Nat) (av : AV), (heads (l.map some) z)[k]? = some (some av) → ∃ (ag : Bool) (os : List OV), av = AV.val ag os := by
        intro l
        induction l with
        | nil =>
          intro z _ k av hk
          have hk : ([] : List (Option AV))[k]? = some (some av) := hk
          simp at hk
        | cons p l ih =>
          intro z hl k av hk
          rw [List.all_cons, Bool.and_eq_true] at hl
          cases k with
          | zero =>
            have hk : some (some (p.av (headRT (l.map some)) z).1) = some (some av) := hk
            simp only [Option.some.injEq] at hk
            subst hk
            cases p with
            | val ag qs => exact ⟨ag, _, rfl⟩
            | _ => cases hl.1
          | succ k => exact ih _ hl.2 k av hk
      exact key ps x hval
    refine (h c w args x y (by rw [l2]; simp) (fun k av hk => ?_) hH.lt hty).mono fun e w' ⟨⟨v, he, hv, hq, hq2⟩, hbel⟩ => ?_
    · obtain ⟨v, h1, h2⟩ := hold k av hk
      rw [Nat.zero_add] at h2
      refine ⟨v, h1, ?_⟩
      obtain ⟨ag, os, rfl⟩ := hvals k av hk
      cases ag <;> exact h2
    · have hst : Stays w w' c.ok c.ok := ⟨hbel.size, fun b hb _ => hbel.block b hb, fun _ _ h => h⟩
      refine ⟨v, he, c, ⟨fun b l hb => ⟨Nat.lt_of_lt_of_le (hH.lt b l hb) hbel.size, (hH.lb b l hb).imp id fun hh => .inr ((hH.m b).2 ⟨l, hb, hh⟩)⟩, fun b _ hb => .inr ((hH.ok b).2 hb), ⟨hbel.os, hbel.tape, hbel.output, hbel.size⟩, fun k hk _ => hbel.block k hk⟩, ?_, ?_⟩
      · refine .inl ⟨.one (q.ov y.1), ?_, v, [], rfl, ?_, rfl⟩
        · rfl
        · have hv : HoldL Cz.free w' .pres 0 [q.ov y.1] [v] := hv
          cases q with
          | int k => exact hv
          | bool => exact hv
          | str => exact hv
          | own _ => cases hq
          | shr _ => exact hq2.elim
      · have hlen : avs.length = args.toList.length := by rw [← l1, l2]
        have key : ∀ (l : List AP) (ws : List AV) (z : denR (headRT (l.map some))) (u : denR (extRT l)) (vs : List Value) (i : Nat), l.all AP.isVal = true → castAs l ws = some z → ws.length = vs.length → HoldX c w' lc i ws vs (extsOf l u) := by
          intro l
          induction l with
          | nil =>
            intro ws z u vs i _ hc _
            cases ws with
            | nil => rfl
            | cons _ _ => simp [castAs] at hc
          | cons p l ih =>
            intro ws z u vs i hl hc hn
            rw [List.all_cons, Bool.and_eq_true] at hl
            cases ws with
            | nil => simp [castAs] at hc
            | cons a ws =>
              cases vs with
              | nil => simp at hn
              | cons v vs =>
                unfold castAs at hc
                cases hq3 : castAs l ws with
                | none => simp [hq3] at hc
                | some z' =>
                  simp only [hq3] at hc
                  cases p with
                  | val ag qs =>
                    cases a with
                    | val ag' os => exact ih ws z' u vs (i + 1) hl.2 hq3 (by simpa using hn)
                    | _ => cases ag <;> cases hc
                  | _ => cases hl.1
        exact key ps avs x _ args.toList 0 hval hx hlen

/-! ### strings.Join -/
def joinL (xs : List (ByteArray × Unit)) (sep : ByteArray) : List UInt8 := Lib.join (xs.map fun y => y.1.data.toList) sep.data.toList
def joinT (xs : List (ByteArray × Unit)) (sep : ByteArray) : Option (ByteArray × Unit) := bif Nat.ble xs.length lim && Nat.ble (joinL xs sep).length lim then some (⟨(joinL xs sep).toArray⟩, ()) else none

theorem join_calls {P : Program} {ρ : Ren} (L : Lays.n156 P ρ) (X : Builder.Extra P ρ) {w : World} {ok : Nat → Prop} (xs : List (ByteArray × Unit)) (sep : ByteArray) {v0 : Value} (hr : RepTy w ok (.sl (.cons .str .nil)) v0 xs) (b1 : xs.length ≤ 35184372088832) (b2 : (joinL xs sep).length ≤ 35184372088832) :
    Calls P (ρ.f 156) #[v0, .string sep] w fun e w' => e = .returned (.string ⟨(joinL xs sep).toArray⟩) ∧ Below w.heap.size w w' := by
  have hmap : (List.map (fun x => x.data.toList) (List.map (fun x => x.1) xs)) = xs.map fun y => y.1.data.toList := by rw [List.map_map]; rfl
  rcases (repSl w ok (.cons .str .nil) v0 xs).1 hr with ⟨rfl, hx⟩ | ⟨a, cap, rfl, hcap, hblk, hel⟩
  · have hx : xs = [] := hx
    subst hx
    exact (Any.strings_Join_none L X none 0 sep w).mono fun e w' ⟨he, hw⟩ => ⟨by rw [he]; rfl, hw ▸ Below.refl _ _⟩
  · by_cases hxs : xs = []
    · subst hxs
      exact (Any.strings_Join_none L X (some a) cap sep w).mono fun e w' ⟨he, hw⟩ => ⟨by rw [he]; rfl, hw ▸ Below.refl _ _⟩
    · obtain ⟨hspot, hlt2, _⟩ := hblk hxs
      obtain ⟨ab, ao, asp⟩ := a
      simp only at hspot
      subst hspot
      have := Any.strings_Join L X ab ao cap (xs.map (fun x => x.1)) sep w (fun j x hj => by
        rw [List.getElem?_map, Option.map_eq_some_iff] at hj
        obtain ⟨r, hj1, rfl⟩ := hj
        have hrow := hel j r hj1
        unfold RepR at hrow
        obtain ⟨⟨v, hv, hv2⟩, _⟩ := hrow
        have hv2 := repStr.1 hv2
        subst hv2
        have e : ao + j * RT.width (.cons .str .nil) = ao + j := by
          show ao + j * 1 = ao + j
          omega
        rw [e] at hv
        exact hv) hlt2 (by rw [List.length_map]; omega) (by rw [List.length_map]; exact hcap) (by
        rw [hmap]
        have : (Lib.join (xs.map fun y => y.1.data.toList) sep.data.toList).length ≤ 35184372088832 := b2
        omega)
      rw [List.length_map, hmap] at this
      exact this

theorem join_known {P : Program} {ρ : Ren} (L : Lays.n156 P ρ) (X : Builder.Extra P ρ) {f : Nat} (hf : ρ.f 156 = f) (hfn : ∃ fn, P.funcs[f]? = some fn ∧ (fn.name == "runtime.NumGoroutine") = false ∧ fn.body.isNone = false) :
    Known P f (semOf [.val false [.shr (.cons .str .nil)], .val false [.str]] [{ src := .tmp 0, agg := false, ps := [.str] }] (fun x => joinT x.1 x.2.1)) := by
  refine known_pure rfl rfl hfn (fun c w args x y hn hold hlt ht => ?_)
  obtain ⟨xs, sep, u⟩ := x
  have hn : 2 = args.size := hn
  obtain ⟨v0, e0, h0⟩ := hold 0 _ rfl
  obtain ⟨v1, e1, h1⟩ := hold 1 _ rfl
  have ha : args = #[v0, v1] := by
    apply Array.toList_inj.1
    have hl : args.toList.length = 2 := by rw [Array.length_toList]; exact hn.symm
    match hq : args.toList, hl with
    | [a, b], _ =>
      rw [hq] at e0 e1
      simp only [List.getElem?_cons_zero, List.getElem?_cons_succ, Option.some.injEq] at e0 e1
      rw [e0, e1]
  subst ha
  obtain ⟨l0, hl0, hs⟩ := h1
  injection hl0 with hl0 _
  subst hl0
  obtain ⟨v', l', hv', hr, _⟩ := h0
  injection hv' with hv' _
  subst hv'
  have ht : (bif Nat.ble (List.length (α := ByteArray × Unit) xs) lim && Nat.ble (joinL xs sep).length lim then some ((⟨(joinL xs sep).toArray⟩ : ByteArray), ()) else none) = some y := ht
  obtain ⟨hb, ht2⟩ := bif_some ht
  rw [Bool.and_eq_true] at hb
  have b1 := Nat.le_of_ble_eq_true hb.1
  have b2 := Nat.le_of_ble_eq_true hb.2
  injection ht2 with ht2
  subst ht2
  unfold lim at b1 b2
  have hc := join_calls L X xs sep hr b1 b2
  rw [hf] at hc
  refine hc.mono fun e w' ⟨he, hbel⟩ => ⟨⟨_, he, ⟨[], rfl, rfl⟩, rfl, trivial⟩, hbel⟩
end Go.TM
