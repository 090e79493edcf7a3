import Derived.Test.YtiemgkjmifpfcaaDoorAb23
set_option linter.unusedVariables false
set_option linter.unusedSimpArgs false
namespace Go.Ab
open Go
variable {K : Codes} {C : Cfg K}

/-! ### the same slice, told by other elements -/
theorem sl_conv {I : Ids} {M : Nat → Prop} {w : World} {α β : Type} {e : α → PV} {f : β → PV} {xs : List α} {ys : List β} (h : ys.map f = xs.map e) {l : List Value} (hx : RepF I M w (.sl α e xs) l) : RepF I M w (.sl β f ys) l := by
  have hlen : ys.length = xs.length := by simpa using congrArg List.length h
  obtain ⟨A, cap, rfl, hc, hx⟩ := hx
  refine ⟨A, cap, by rw [hlen], by omega, ?_⟩
  rcases hx with rfl | ⟨b, off, s, cells, t, fr, rfl, hs, hM, hb, hel⟩
  · left; exact List.eq_nil_of_length_eq_zero (by simpa using hlen)
  · right
    refine ⟨b, off, s, cells, t, fr, rfl, hs, hM, hb, fun i y hi => ?_⟩
    have h1 : (ys.map f)[i]? = some (f y) := by simp [hi]
    rw [h, List.getElem?_map] at h1
    obtain ⟨x, hx1, hx2⟩ := Option.map_eq_some_iff.1 h1
    obtain ⟨cs, c1, c2, c3⟩ := hel i x hx1
    exact ⟨cs, c1, by rw [← hx2]; exact c2, c3⟩

/-- Arguments, told in another way. -/
inductive Conv : List PV → List PV → Prop where
  | nil : Conv [] []
  | same (x : PV) {xs ys : List PV} : Conv xs ys → Conv (x :: xs) (x :: ys)
  | sl {α β : Type} {e : α → PV} {f : β → PV} {l : List α} {m : List β} {xs ys : List PV} : m.map f = l.map e → Conv xs ys → Conv (.sl α e l :: xs) (.sl β f m :: ys)

theorem Conv.rep {I : Ids} {M : Nat → Prop} {w : World} : ∀ {xs ys : List PV} {vs : List Value}, Conv xs ys → RepFs I M w xs vs → RepFs I M w ys vs
  | _, _, vs, .nil, h => h
  | _, _, vs, .same x hc, h => by
    obtain ⟨v, r, rfl, h1, h2⟩ := h
    exact ⟨v, r, rfl, h1, hc.rep h2⟩
  | _, _, vs, .sl he hc, h => by
    obtain ⟨v, r, rfl, ⟨h1, h3⟩, h2⟩ := h
    exact ⟨v, r, rfl, ⟨sl_conv he h1, h3⟩, hc.rep h2⟩

theorem FunS.conv {g : FuncId} {F F' : SpecS} (h : FunS C g F') (hc : ∀ ys Φ, F ys Φ → ∃ ys', Conv ys ys' ∧ F' ys' Φ) : FunS C g F := by
  intro Z ys Φ hF w vs hZ hg hv
  obtain ⟨ys', h1, h2⟩ := hc ys Φ hF
  exact h Z ys' Φ h2 w vs hZ hg (h1.rep hv)

/-! ### places of a body -/
def bodyOf (f : Func) : Code := match f.body with
  | some c => c
  | none => .skip
def FF (f : Func) (m : Nat) (live : Nat → Option (List Nat)) : Fun := ⟨f.ntmps, m, f.results.toList, live, fun _ => false, fun _ => []⟩

def hasRegion (id : Nat) : Code → Bool
  | .region i _ _ => Nat.beq i id
  | .seq a b => hasRegion id a || hasRegion id b
  | .cond _ a b => hasRegion id a || hasRegion id b
  | .block _ a => hasRegion id a
  | .loop a => hasRegion id a
  | _ => false

/-- What is to be done from the loop on whose first region has a number. -/
def atLoop (id : Nat) : Nat → List AItem → List AItem
  | 0, l => l
  | n + 1, l => match l with
    | [] => []
    | .endB _ :: r => atLoop id n r
    | .code c :: r => match c with
      | .seq a b => match hasRegion id a with
        | true => atLoop id n (.code a :: .code b :: r)
        | false => atLoop id n (.code b :: r)
      | .cond _ a b => match hasRegion id a with
        | true => atLoop id n (.code a :: r)
        | false => match hasRegion id b with
          | true => atLoop id n (.code b :: r)
          | false => atLoop id n r
      | .block i a => match hasRegion id a with
        | true => atLoop id n (.code a :: .endB i :: r)
        | false => atLoop id n r
      | .loop a => match firstRegion a with
        | some j => match Nat.beq j id with
          | true => .code (.loop a) :: r
          | false => match hasRegion id a with
            | true => atLoop id n (.code a :: .code (.loop a) :: r)
            | false => atLoop id n r
        | none => atLoop id n r
      | _ => atLoop id n r
def td (f : Func) (id : Nat) : List AItem := atLoop id 200 [.code (bodyOf f)]
end Go.Ab
