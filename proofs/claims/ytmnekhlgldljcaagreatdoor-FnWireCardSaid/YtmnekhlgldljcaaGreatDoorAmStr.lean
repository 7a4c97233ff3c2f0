/- Functions of Go's library, by the shelf's contracts: strings.Split, Cut, Join, strconv.Itoa; functions that call themselves. No condition. -/
import Derived.Test.YtmnekhlgldljcaaGreatDoorAmLib
import Derived.Test.YtmnekhlgldljcaaGreatDoorAmLaw
import Derived.Shelf.Lay
import Derived.Lib.SplitLaws
import Derived.Shelf.Strings.SplitShaped
import Derived.Shelf.Strings.Shaped
import Derived.Shelf.Strings.OnBuilder
import Derived.Shelf.Strconv.Itoa3
set_option linter.unusedVariables false
set_option linter.unusedSimpArgs false
namespace Go.AM
open Go.AM.P Go.Shelf Go.Proofs Go.RowKit
theorem fok_sup {P : Program} {Γ : Facts} {f : FuncId} {ins : List PIn} {outs : List POut} {b : Bool} {p : Nat → insDen ins → Option (outsDen outs × mutsDen ins)} {q : insDen ins → Option (outsDen outs × mutsDen ins)}
    (h : ∀ k, FOk P Γ f ⟨ins, outs, p k, b⟩) (hq : ∀ x y, q x = some y → ∃ k, p k x = some y) : FOk P Γ f ⟨ins, outs, q, b⟩ := fun x args w U0 Fm h1 h2 h3 h4 h5 y hy =>
  let ⟨k, hk⟩ := hq x y hy
  h k x args w U0 Fm h1 h2 h3 h4 h5 y hk
theorem fok_none {P : Program} {Γ : Facts} {f : FuncId} {ins : List PIn} {outs : List POut} {b : Bool} {p : insDen ins → Option (outsDen outs × mutsDen ins)} (h : ∀ x, p x = none) : FOk P Γ f ⟨ins, outs, p, b⟩ := fun x args w U0 Fm h1 h2 h3 h4 h5 y hy => by
  rw [show (FSpec.mk ins outs p b).fn x = none from h x] at hy; cases hy
section
variable {P : Program} {ρ : Ren} {Γ : Facts}
theorem fr_of_below {q : Prop} {M : Nat → Prop} {w w' : World} (h : Below w.heap.size w w') (hd : q → w.drawn ≤ w'.drawn) : FrQ q M w w' := ⟨h.os, h.tape, h.output, h.size, fun k hk _ => h.block k hk, hd⟩
theorem var_of {w W : World} {name : String} {g : Nat} (hg : P.globalNamed name = some g) (h : w.heap[g]? = W.heap[g]?) : w.var? P name = W.var? P name := by
  unfold World.var?
  rw [hg]
  simp only [Option.bind_some, h]
theorem imm_str (x : ByteArray) (w : World) (U : Nat → Prop) : ImmS .str x [.string x] w U := ImmS.flat rfl (show Rep .str w x _ from rfl) U
theorem imm_bool (x : Bool) (w : World) (U : Nat → Prop) : ImmS .bool x [.bool x] w U := ImmS.flat rfl (show Rep .bool w x _ from rfl) U
theorem imm_int (k : IntKind) (x : Int) (w : World) (U : Nat → Prop) : ImmS (.int k) x [.int k x] w U := ImmS.flat rfl (show Rep (.int k) w x _ from rfl) U
theorem below_grown' (w : World) (k : Nat) (os : Array Obj) : Below w.heap.size w (Sort.grow (w.drewN k) os) :=
  ⟨rfl, rfl, rfl, by show w.heap.size ≤ (w.heap ++ os).size; rw [Array.size_append]; omega, fun _ hj => Sort.heap_grow_old (w.drewN k) os hj⟩
theorem ok_Itoa (L : LaysM.n171 P ρ) (hΓ : ∀ W, Γ.p W → Lib.TabIs P W "internal/strconv.uint64pow10" .u64 Lib.pow10Tab) {g : Nat} (hg : P.globalNamed "internal/strconv.uint64pow10" = some g) (hgn : g < Γ.n) :
    FOk P Γ (ρ.f 171) ⟨[.imm false (.int .i64)], [.imm false .str], fun x => S_strconv_Itoa x.1, true⟩ := by
  rintro ⟨n, ⟨⟩⟩ args w U0 Fm hU0 ⟨v, cs, r, rfl, hp, hi, rfl, rfl⟩ hnd hdis hgl y hy
  obtain rfl : cs = [v] := hp
  obtain rfl : v = .int .i64 n := by simpa [Rep] using hi.rep
  simp only [S_strconv_Itoa] at hy
  split at hy
  case isFalse => cases hy
  rename_i hb
  obtain ⟨W, hW, hn, hsame⟩ := hgl
  have htab : Lib.TabIs P w "internal/strconv.uint64pow10" .u64 Lib.pow10Tab := (var_of hg (hsame g hgn).2).trans (hΓ W hW)
  refine (Any.strconv_Itoa L n hb.1 hb.2 w htab).mono ?_
  rintro e w' ⟨rfl, k, os, rfl⟩
  obtain rfl := Option.some.inj hy
  refine ⟨[.string ⟨(Lib.itoa n).toArray⟩], [], rfl, fr_of_below (below_grown' _ _ _) fun _ => ?_, List.nodup_nil, by simp, ?_, trivial⟩
  · show w.drawn ≤ w.drawn + k; omega
  · exact ⟨_, [_], [], rfl, rfl, imm_str _ _ _, rfl, rfl⟩
theorem cell_of {w W : World} {g : Nat} (h : w.heap[g]? = W.heap[g]?) (o : Nat) : w.cell? ⟨g, o, none⟩ = W.cell? ⟨g, o, none⟩ := World.cell?_of_block (a := ⟨g, o, none⟩) h
theorem strs_all (w : World) : ∀ xs : List ByteArray, AllR (Deep .str w) xs (xs.map fun _ => []) (xs.map fun x => [.string x])
  | [] => trivial
  | x :: xs => ⟨⟨rfl, rfl⟩, strs_all w xs⟩
theorem flat_nil {α β : Type} : ∀ xs : List α, (xs.map fun _ => ([] : List β)).flatten = []
  | [] => rfl
  | _ :: xs => by simp
theorem flat_one {α β : Type} (f : α → β) : ∀ xs : List α, (xs.map fun x => [f x]).flatten = xs.map f
  | [] => rfl
  | x :: xs => by simp [flat_one f xs]
theorem ok_Split (L : LaysM.n146 P ρ) (hΓ : ∀ W, Γ.p W → W.ShapedOpen P) (hgn : ρ.g 1 < Γ.n) :
    FOk P Γ (ρ.f 146) ⟨[.imm false .str, .imm false .str], [.deep false (.slice (ρ.t 9) .str)], fun x => S_strings_Split x.1 x.2.1, true⟩ := by
  rintro ⟨s, sep, ⟨⟩⟩ args w U0 Fm hU0 ⟨v, cs, r, rfl, hp, hi, v2, cs2, r2, rfl, hp2, hi2, rfl, rfl⟩ hnd hdis hgl y hy
  obtain rfl : cs = [v] := hp
  obtain rfl : cs2 = [v2] := hp2
  obtain rfl : v = .string s := by simpa [Rep] using hi.rep
  obtain rfl : v2 = .string sep := by simpa [Rep] using hi2.rep
  simp only [S_strings_Split] at hy
  split at hy
  case isFalse => cases hy
  rename_i hb
  obtain ⟨W, hW, hn, hsame⟩ := hgl
  obtain ⟨m, hm⟩ := L.s1_3 W (hΓ W hW)
  rw [← cell_of (hsame _ hgn).2] at hm
  refine (Any.strings_Split { L with } L.i9 s sep m w hb.1 hm hb.2).mono ?_
  rintro e w' ⟨rfl, rfl⟩
  obtain rfl := Option.some.inj hy
  have hlen : (Lib.splitB sep 0 (Lib.countB s sep) s).length = Lib.countB s sep + 1 := Lib.splitB_all sep hb.2 0 _ s rfl
  have hle : (Lib.splitB sep 0 (Lib.countB s sep) s).length ≤ maxLen := by
    rw [hlen]
    have : Lib.countB s sep ≤ s.size := Lib.countB_le sep hb.2 _ s (Nat.le_refl _)
    simp [maxLen]; omega
  refine ⟨[_], [w.heap.size], rfl, ⟨rfl, rfl, rfl, by simp, fun k hk _ => (Fr.alloc w _).block k hk id, fun _ => Nat.le_refl _⟩, by simp, by simp, ?_, trivial⟩
  refine ⟨_, [_], [], [w.heap.size], [], rfl, rfl, ⟨_, rfl, _, _, strs_all _ _, ?_, ?_⟩, rfl, rfl, rfl⟩
  · rw [flat_nil]; rfl
  · rw [flat_one, ← hlen]
    exact ⟨by simp [Ty.size], .inr ⟨_, _, _, rfl, Nat.zero_le _, heap_alloc_new w _, Nat.le_refl _, hle, by simp [Ty.size], by simp only [Ty.size, Nat.mul_one]; rw [List.take_of_length_le (by simp)]⟩⟩
theorem ok_Cut (L : LaysM.n145 P ρ) (hΓ : ∀ W, Γ.p W → W.ShapedOpen P) (hgn : ρ.g 1 < Γ.n) :
    FOk P Γ (ρ.f 145) ⟨[.imm false .str, .imm false .str], [.imm false .str, .imm false .str, .imm false .bool], fun x => S_strings_Cut x.1 x.2.1, true⟩ := by
  rintro ⟨s, sep, ⟨⟩⟩ args w U0 Fm hU0 ⟨v, cs, r, rfl, hp, hi, v2, cs2, r2, rfl, hp2, hi2, rfl, rfl⟩ hnd hdis hgl y hy
  obtain rfl : cs = [v] := hp
  obtain rfl : cs2 = [v2] := hp2
  obtain rfl : v = .string s := by simpa [Rep] using hi.rep
  obtain rfl : v2 = .string sep := by simpa [Rep] using hi2.rep
  simp only [S_strings_Cut] at hy
  split at hy
  case isFalse => cases hy
  rename_i hb
  obtain ⟨W, hW, hn, hsame⟩ := hgl
  obtain ⟨m, hm⟩ := L.s1_3 W (hΓ W hW)
  rw [← cell_of (hsame _ hgn).2] at hm
  refine (Any.strings_Cut { L with } s sep m w hb hm).mono ?_
  rintro e w' ⟨rfl, n, rfl⟩
  obtain rfl := Option.some.inj hy
  refine ⟨[_, _, _], [], rfl, ⟨rfl, rfl, rfl, Nat.le_refl _, fun _ _ _ => rfl, fun _ => by show w.drawn ≤ w.drawn + n; omega⟩, List.nodup_nil, by simp, ?_, trivial⟩
  exact ⟨_, [_], _, rfl, rfl, imm_str _ _ _, _, [_], _, rfl, rfl, imm_str _ _ _, _, [_], _, rfl, rfl, imm_bool _ _ _, rfl, rfl⟩
theorem ok_Join (L : Lays.n156 P ρ) (X : Builder.Extra P ρ) {e : TypeId} :
    FOk P Γ (ρ.f 156) ⟨[.imm false (.slice e .str), .imm false .str], [.imm false .str], fun x => S_strings_Join x.1 x.2.1, false⟩ := by
  rintro ⟨xs, sep, ⟨⟩⟩ args w U0 Fm hU0 ⟨v, cs, r, rfl, hp, hi, v2, cs2, r2, rfl, hp2, hi2, rfl, rfl⟩ hnd hdis hgl y hy
  obtain rfl : cs = [v] := hp
  obtain rfl : cs2 = [v2] := hp2
  obtain rfl : v2 = .string sep := by simpa [Rep] using hi2.rep
  simp only [S_strings_Join] at hy
  split at hy
  case isFalse => cases hy
  rename_i hb
  obtain rfl := Option.some.inj hy
  obtain ⟨A, c, hv, hc, hcell⟩ := hi.rep
  simp only [List.cons.injEq, and_true] at hv
  subst hv
  have key : Calls P (ρ.f 156) #[.slice A xs.length c, .string sep] w fun e w' => e = .returned (.string ⟨(Lib.join (xs.map (·.data.toList)) sep.data.toList).toArray⟩) ∧ Below w.heap.size w w' := by
    rcases hcell with h0 | ⟨b, o, rfl, hcell⟩
    · obtain rfl : xs = [] := h0
      exact (Any.strings_Join_none L X A c sep w).mono fun e w' ⟨he, hw⟩ => ⟨he, hw ▸ Below.refl _ _⟩
    · by_cases h0 : xs = []
      · subst h0
        exact (Any.strings_Join_none L X _ c sep w).mono fun e w' ⟨he, hw⟩ => ⟨he, hw ▸ Below.refl _ _⟩
      · have hcells : ∀ (j : Nat) x, xs[j]? = some x → w.cell? ⟨b, o + j, none⟩ = some (.string x) := by
          intro j x hx
          obtain ⟨es, he, hj⟩ := hcell j x hx
          obtain rfl : es = [.string x] := he
          have := hj 0 _ rfl
          simpa [Ty.size] using this
        have hbk : b < w.heap.size := by
          obtain ⟨x, hx⟩ : ∃ x, xs[0]? = some x := by
            cases xs with
            | nil => exact absurd rfl h0
            | cons x r => exact ⟨x, rfl⟩
          exact World.block_lt_of_cell? w _ (hcells 0 x hx)
        exact Any.strings_Join L X b o c xs sep w hcells hbk hb.1 hc hb.2
  refine key.mono ?_
  rintro e w' ⟨rfl, hbel⟩
  refine ⟨[_], [], rfl, fr_of_below hbel (fun h => by cases h), List.nodup_nil, by simp, ?_, trivial⟩
  exact ⟨_, [_], [], rfl, rfl, imm_str _ _ _, rfl, rfl⟩
end
end Go.AM
