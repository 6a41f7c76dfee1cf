/- Words for this seat's walks: what a call may change (Fr), things in memory (Ob), several of them side by side (Sep). No condition. -/
import Derived.Test.YtobeonkddamnoaaDoorProg
import Derived.Test.YtobeonkddamnoaaDoorQm
import Derived.Below
import Derived.Deep.Draws
import Derived.Deep.AppendLies
import Derived.Maps.AppendAt
import Derived.OwnWalk
import Derived.Laws.BytesArg
import Derived.Laws.MakeOwn
import Derived.Laws.OwnMore
import Derived.Deep.OwnRows
import Derived.Tactics
import Derived.Laws.Slices
import Derived.WalkKit
import Derived.KernelRfl
import Derived.RowKit3
import Derived.Deep.LoopGhost
import Derived.Deep.QuietTactic
import Derived.BigQuiet
import Derived.WideLaws
import Derived.Deep.DeepCutAuto
import Derived.Deep.CutBlock
import Derived.Deep.RegionHeld3
import Derived.Laws.Rows
import Derived.ArgAppend
import Derived.Laws.IdiomCopy
import Derived.OrdersHeld
import Derived.Laws.BitsLemmas
import Derived.RowKit
import Derived.ChangeKeysEq
import Derived.Lib.SliceRun
import Derived.Laws.LoneSync
import Derived.Test.YtobeonkddamnoaaDoorWp
namespace Go.Proofs.YtobeonkddamnoaaDoor.Q
open Go.Proofs.YtobeonkddamnoaaDoor.M
open Go.RowKit Go.Proofs.YtobeonkddamnoaaDoorW.PrintWords Go.Proofs.YtobeonkddamnoaaDoorW.PrintLast

/-- What a call may have changed: blocks of F, and new ones. -/
structure Fr (F : Nat → Prop) (w w' : World) : Prop where
  os : w'.os = w.os
  tape : w'.tape = w.tape
  output : w'.output = w.output
  size : w.heap.size ≤ w'.heap.size
  block : ∀ k, k < w.heap.size → ¬ F k → w'.heap[k]? = w.heap[k]?
theorem Fr.refl (F : Nat → Prop) (w : World) : Fr F w w := ⟨rfl, rfl, rfl, Nat.le_refl _, fun _ _ _ => rfl⟩
theorem Fr.trans {F : Nat → Prop} {a b c : World} (h : Fr F a b) (k : Fr F b c) : Fr F a c :=
  ⟨k.os.trans h.os, k.tape.trans h.tape, k.output.trans h.output, Nat.le_trans h.size k.size,
   fun i hi hF => (k.block i (Nat.lt_of_lt_of_le hi h.size) hF).trans (h.block i hi hF)⟩
theorem Fr.mono {F G : Nat → Prop} {a b : World} (h : Fr F a b) (hs : ∀ k, k < a.heap.size → F k → G k) : Fr G a b :=
  ⟨h.os, h.tape, h.output, h.size, fun i hi hG => h.block i hi (fun hF => hG (hs i hi hF))⟩
theorem Fr.step {F G : Nat → Prop} {a b c : World} (h : Fr F a b) (k : Fr G b c) (hs : ∀ i, i < a.heap.size → G i → F i) : Fr F a c :=
  ⟨k.os.trans h.os, k.tape.trans h.tape, k.output.trans h.output, Nat.le_trans h.size k.size,
   fun i hi hF => (k.block i (Nat.lt_of_lt_of_le hi h.size) (fun hG => hF (hs i hi hG))).trans (h.block i hi hF)⟩
theorem Fr.drew {F : Nat → Prop} {a w : World} (h : Fr F a w) : Fr F a w.drew := ⟨h.os, h.tape, h.output, h.size, h.block⟩
theorem Fr.drewN {F : Nat → Prop} {a w : World} (h : Fr F a w) (n : Nat) : Fr F a (w.drewN n) := ⟨h.os, h.tape, h.output, h.size, h.block⟩
theorem Fr.alloc {F : Nat → Prop} {a w : World} (h : Fr F a w) (o : Obj) : Fr F a (w.alloc o) :=
  h.trans ⟨rfl, rfl, rfl, by simp, fun k hk _ => Below.heap_alloc _ _ _ hk⟩
theorem Fr.set {F : Nat → Prop} {a w : World} (h : Fr F a w) {p : Addr} (hp : p.block < a.heap.size → F p.block) (u : Value) : Fr F a (w.setCell p u) :=
  ⟨h.os, h.tape, h.output, Nat.le_trans h.size (by simp [World.setCell]), fun k hk hF => (Below.heap_setCell _ _ _ _ (fun e => hF (by subst e; exact hp hk))).trans (h.block k hk hF)⟩

/-- A thing in memory: its blocks, what is true of them. -/
structure Ob where
  fp : Nat → Prop
  ok : World → Prop
  loc : ∀ {w w' : World}, (∀ k, fp k → w'.heap[k]? = w.heap[k]?) → ok w → ok w'
  lt : ∀ {w : World}, ok w → ∀ k, fp k → k < w.heap.size
theorem Ob.keep (o : Ob) {F : Nat → Prop} {w w' : World} (h : o.ok w) (hf : Fr F w w') (hd : ∀ k, o.fp k → ¬ F k) : o.ok w' :=
  o.loc (fun k hk => hf.block k (o.lt h k hk) (hd k hk)) h
def fps (l : List Ob) : Nat → Prop := fun k => ∃ o, o ∈ l ∧ o.fp k
theorem fps_nil (k : Nat) : ¬ fps [] k := fun ⟨_, h, _⟩ => by cases h
theorem Fr.of_below {w w' : World} (h : Below w.heap.size w w') : Fr (fps []) w w' :=
  ⟨h.os, h.tape, h.output, h.size, fun k hk _ => h.block k hk⟩
theorem Fr.below {w w' : World} (h : Fr (fps []) w w') : Below w.heap.size w w' :=
  ⟨h.os, h.tape, h.output, h.size, fun k hk => h.block k hk (fps_nil k)⟩
/-- One block of cells. -/
def blk (g : Nat) (cs : Array Value) (t : TypeId) : Ob where
  fp := fun k => k = g
  ok := fun w => w.heap[g]? = some (.cells cs t (0, 0))
  loc := fun h k => (h g rfl).trans k
  lt := fun h k hk => by subst hk; exact (Array.getElem?_eq_some_iff.1 h).1

/-- Things side by side, in a world that has come from w0; of the blocks that were there at w0 only those of F may have changed. -/
structure Sep (F : Nat → Prop) (w0 : World) (l : List Ob) (W : World) : Prop where
  fr : Fr F w0 W
  ok : ∀ o, o ∈ l → o.ok W
  apart : l.Pairwise fun a b => ∀ k, a.fp k → ¬ b.fp k
  inF : ∀ o, o ∈ l → ∀ k, o.fp k → k < w0.heap.size → F k
theorem Sep.start {F : Nat → Prop} (w : World) : Sep F w [] w := ⟨Fr.refl _ _, by simp, .nil, by simp⟩
theorem Sep.one {w : World} {o : Ob} (h : o.ok w) : Sep o.fp w [o] w :=
  ⟨Fr.refl _ _, by simpa using h, by simp, fun x hx k hk _ => by simp at hx; subst hx; exact hk⟩
theorem Sep.drew {F : Nat → Prop} {w0 W : World} {l : List Ob} (h : Sep F w0 l W) : Sep F w0 l W.drew :=
  ⟨h.fr.drew, fun o ho => o.loc (w := W) (fun _ _ => rfl) (h.ok o ho), h.apart, h.inF⟩
theorem Sep.drewN {F : Nat → Prop} {w0 W : World} {l : List Ob} (h : Sep F w0 l W) (n : Nat) : Sep F w0 l (W.drewN n) :=
  ⟨h.fr.drewN n, fun o ho => o.loc (w := W) (fun _ _ => rfl) (h.ok o ho), h.apart, h.inF⟩
/-- Behind what changes none of them. -/
theorem Sep.pure {F : Nat → Prop} {w0 W W' : World} {l : List Ob} (h : Sep F w0 l W) (hf : Fr (fps []) W W') : Sep F w0 l W' :=
  ⟨h.fr.trans ⟨hf.os, hf.tape, hf.output, hf.size, fun k hk _ => hf.block k hk (fps_nil k)⟩, fun o ho => o.keep (h.ok o ho) hf (fun k _ => fps_nil k), h.apart, h.inF⟩
/-- A new thing, all of whose blocks are new. -/
theorem Sep.new {F : Nat → Prop} {w0 W W' : World} {l : List Ob} (h : Sep F w0 l W) (hf : Fr (fps []) W W') {o : Ob} (ho : o.ok W') (hn : ∀ k, o.fp k → W.heap.size ≤ k) : Sep F w0 (l ++ [o]) W' := by
  have h' := h.pure hf
  refine ⟨h'.fr, fun x hx => ?_, ?_, fun x hx k hk hlt => ?_⟩
  · rcases List.mem_append.1 hx with hx | hx
    · exact h'.ok x hx
    · simp at hx; subst hx; exact ho
  · refine List.pairwise_append.2 ⟨h.apart, by simp, fun a ha b hb k hka hkb => ?_⟩
    simp at hb; subst hb
    have := a.lt (h.ok a ha) k hka
    have := hn k hkb
    omega
  · rcases List.mem_append.1 hx with hx | hx
    · exact h.inF x hx k hk hlt
    · simp at hx; subst hx
      have := hn k hk
      have := h.fr.size
      omega
/-- One of them changes, within its blocks (and new ones). -/
theorem Sep.upd {F : Nat → Prop} {w0 W W' : World} {l1 l2 : List Ob} {o o' : Ob} (h : Sep F w0 (l1 ++ o :: l2) W) (hf : Fr o.fp W W') (ho : o'.ok W')
    (hfp : ∀ k, o'.fp k → o.fp k ∨ W.heap.size ≤ k) : Sep F w0 (l1 ++ o' :: l2) W' := by
  obtain ⟨p1, p2, p3⟩ := List.pairwise_append.1 h.apart
  obtain ⟨p4, p5⟩ := List.pairwise_cons.1 p2
  have hok : ∀ x, x ∈ l1 ∨ x ∈ l2 → x.ok W' := fun x hx => by
    rcases hx with hx | hx
    · exact x.keep (h.ok x (by simp [hx])) hf (fun k hk hko => p3 x hx o (by simp) k hk hko)
    · exact x.keep (h.ok x (by simp [hx])) hf (fun k hk hko => p4 x hx k hko hk)
  have hold : ∀ x, x ∈ l1 ∨ x ∈ l2 → ∀ k, x.fp k → k < W.heap.size := fun x hx k hk => x.lt (h.ok x (by rcases hx with hx | hx <;> simp [hx])) k hk
  refine ⟨h.fr.step hf (fun i hi ho => h.inF o (by simp) i ho hi), fun x hx => ?_, ?_, fun x hx k hk hlt => ?_⟩
  · rcases List.mem_append.1 hx with hx | hx
    · exact hok x (.inl hx)
    · rcases List.mem_cons.1 hx with hx | hx
      · subst hx; exact ho
      · exact hok x (.inr hx)
  · refine List.pairwise_append.2 ⟨p1, List.pairwise_cons.2 ⟨fun x hx k hk hkx => ?_, p5⟩, fun x hx y hy k hk hky => ?_⟩
    · rcases hfp k hk with hk' | hk'
      · exact p4 x hx k hk' hkx
      · have := hold x (.inr hx) k hkx; omega
    · rcases List.mem_cons.1 hy with hy | hy
      · subst hy
        rcases hfp k hky with hk' | hk'
        · exact p3 x hx o (by simp) k hk hk'
        · have := hold x (.inl hx) k hk; omega
      · exact p3 x hx y (by simp [hy]) k hk hky
  · rcases List.mem_append.1 hx with hx | hx
    · exact h.inF x (by simp [hx]) k hk hlt
    · rcases List.mem_cons.1 hx with hx | hx
      · subst hx
        rcases hfp k hk with hk' | hk'
        · exact h.inF o (by simp) k hk' hlt
        · have := h.fr.size; omega
      · exact h.inF x (by simp [hx]) k hk hlt
theorem Sep.get {F : Nat → Prop} {w0 W : World} {l : List Ob} (h : Sep F w0 l W) (i : Nat) (hi : i < l.length) : (l[i]).ok W := h.ok _ (List.getElem_mem hi)
theorem Sep.perm {F : Nat → Prop} {w0 W : World} {l l' : List Ob} (h : Sep F w0 l W) (hp : l.Perm l') : Sep F w0 l' W :=
  ⟨h.fr, fun o ho => h.ok o (hp.mem_iff.2 ho), h.apart.perm hp (fun hab k hb ha => hab k ha hb), fun o ho => h.inF o (hp.mem_iff.2 ho)⟩
/-- A thing that is looked at no more. -/
theorem Sep.drop {F : Nat → Prop} {w0 W : World} {l1 l2 : List Ob} {o : Ob} (h : Sep F w0 (l1 ++ o :: l2) W) : Sep F w0 (l1 ++ l2) W :=
  ⟨h.fr, fun x hx => h.ok x (by simp only [List.mem_append, List.mem_cons] at hx ⊢; rcases hx with hx | hx <;> simp [hx]),
   h.apart.sublist (List.Sublist.append_left (List.sublist_cons_self _ _) _),
   fun x hx => h.inF x (by simp only [List.mem_append, List.mem_cons] at hx ⊢; rcases hx with hx | hx <;> simp [hx])⟩
theorem blk_cellv {w : World} {g t : Nat} {cs : Array Value} (h : (blk g cs t).ok w) (i : Nat) {v : Value} (hv : cs[i]? = some v) : w.cell? ⟨g, i, none⟩ = some v := (blk_cell h i).trans hv
theorem blk_fz {w : World} {g t : Nat} {cs : Array Value} (h : (blk g cs t).ok w) (i : Nat) : w.frozen? ⟨g, i, none⟩ = false := blk_frozen h i
theorem front_perm {α : Type} : ∀ (l : List α) (i : Nat) (hi : i < l.length), l.Perm (l[i] :: l.eraseIdx i)
  | a :: l, 0, _ => .refl _
  | a :: l, i + 1, hi => by
    have := front_perm l i (by simpa using hi)
    simp only [List.getElem_cons_succ, List.eraseIdx_cons_succ]
    exact (this.cons a).trans (.swap _ _ _)
theorem Sep.front {F : Nat → Prop} {w0 W : World} {l : List Ob} (h : Sep F w0 l W) (i : Nat) (hi : i < l.length) : Sep F w0 (l[i] :: l.eraseIdx i) W :=
  h.perm (front_perm l i hi)
theorem Sep.keep {F : Nat → Prop} {w0 W : World} {l rest : List Ob} (h : Sep F w0 (l ++ rest) W) : Sep F w0 l W :=
  ⟨h.fr, fun o ho => h.ok o (List.mem_append_left _ ho), (List.pairwise_append.1 h.apart).1, fun o ho => h.inF o (List.mem_append_left _ ho)⟩
theorem Sep.begin {F : Nat → Prop} {w0 W : World} {l rest : List Ob} (h : Sep F w0 (l ++ rest) W) : Sep (fps l) W l W :=
  ⟨Fr.refl _ _, fun o ho => h.ok o (List.mem_append_left _ ho), (List.pairwise_append.1 h.apart).1, fun o ho _ hk _ => ⟨o, ho, hk⟩⟩
/-- Behind a call that touches l. -/
theorem Sep.call {F : Nat → Prop} {w0 W W' : World} {l l' rest : List Ob} (h : Sep F w0 (l ++ rest) W) (hS : Sep (fps l) W l' W') : Sep F w0 (l' ++ rest) W' := by
  obtain ⟨p1, p2, p3⟩ := List.pairwise_append.1 h.apart
  have hin : ∀ i, i < w0.heap.size → fps l i → F i := fun i hi ⟨o, ho, hk⟩ => h.inF o (List.mem_append_left _ ho) i hk hi
  have hlt : ∀ x, x ∈ rest → ∀ k, x.fp k → k < W.heap.size := fun x hx k hk => x.lt (h.ok x (List.mem_append_right _ hx)) k hk
  refine ⟨h.fr.step hS.fr hin, fun x hx => ?_, ?_, fun x hx k hk hlt' => ?_⟩
  · rcases List.mem_append.1 hx with hx | hx
    · exact hS.ok x hx
    · exact x.keep (h.ok x (List.mem_append_right _ hx)) hS.fr (fun k hk ⟨o, ho, hko⟩ => p3 o ho x hx k hko hk)
  · refine List.pairwise_append.2 ⟨hS.apart, p2, fun a ha b hb k hka hkb => ?_⟩
    obtain ⟨o, ho, hko⟩ := hS.inF a ha k hka (hlt b hb k hkb)
    exact p3 o ho b hb k hko hkb
  · rcases List.mem_append.1 hx with hx | hx
    · exact hin k hlt' (hS.inF x hx k hk (Nat.lt_of_lt_of_le hlt' h.fr.size))
    · exact h.inF x (List.mem_append_right _ hx) k hk hlt'
theorem Sep.box {F : Nat → Prop} {w0 W W' : World} {l : List Ob} {g : Nat} {cs : Array Value} {t : TypeId} (h : Sep F w0 l W) (hg : g = W.heap.size) (hb : W'.heap[g]? = some (.cells cs t (0, 0))) (hB : Below W.heap.size W W') : Sep F w0 (l ++ [blk g cs t]) W' :=
  h.new (Fr.of_below hB) (o := blk g cs t) hb (fun k hk => by have : k = g := hk; omega)
theorem blk_put {W : World} {g t : Nat} {cs : Array Value} (h : (blk g cs t).ok W) (i : Nat) (v : Value) : (blk g (cs.setIfInBounds i v) t).ok (W.setCell ⟨g, i, none⟩ v) := blk_set h i v
theorem Sep.set1 {F : Nat → Prop} {w0 W : World} {l1 l2 : List Ob} {g t : Nat} {cs : Array Value} (h : Sep F w0 (l1 ++ blk g cs t :: l2) W) (i : Nat) (v : Value) : Sep F w0 (l1 ++ blk g (cs.setIfInBounds i v) t :: l2) (W.setCell ⟨g, i, none⟩ v) :=
  h.upd (o' := blk g (cs.setIfInBounds i v) t) (Fr.set (F := (blk g cs t).fp) (p := ⟨g, i, none⟩) (Fr.refl _ W) (fun _ => rfl) v) (blk_put (h.ok _ (by simp)) i v) (fun k hk => .inl hk)
section
variable {F : Nat → Prop} {w0 W : World} {a b c d e f g h i : Ob} {l : List Ob}
theorem Sep.at0 (x : Sep F w0 (a :: l) W) : a.ok W := x.ok _ (by simp)
theorem Sep.at1 (x : Sep F w0 (a :: b :: l) W) : b.ok W := x.ok _ (by simp)
theorem Sep.at2 (x : Sep F w0 (a :: b :: c :: l) W) : c.ok W := x.ok _ (by simp)
theorem Sep.at3 (x : Sep F w0 (a :: b :: c :: d :: l) W) : d.ok W := x.ok _ (by simp)
theorem Sep.at4 (x : Sep F w0 (a :: b :: c :: d :: e :: l) W) : e.ok W := x.ok _ (by simp)
theorem Sep.at5 (x : Sep F w0 (a :: b :: c :: d :: e :: f :: l) W) : f.ok W := x.ok _ (by simp)
theorem Sep.at6 (x : Sep F w0 (a :: b :: c :: d :: e :: f :: g :: l) W) : g.ok W := x.ok _ (by simp)
theorem Sep.at7 (x : Sep F w0 (a :: b :: c :: d :: e :: f :: g :: h :: l) W) : h.ok W := x.ok _ (by simp)
theorem Sep.at8 (x : Sep F w0 (a :: b :: c :: d :: e :: f :: g :: h :: i :: l) W) : i.ok W := x.ok _ (by simp)
end
theorem Sep.nth {F : Nat → Prop} {w0 W : World} {l : List Ob} (x : Sep F w0 l W) (i : Nat) {o : Ob} (h : l[i]? = some o) : o.ok W := x.ok _ (List.mem_of_getElem? h)
theorem C_at_int {w : World} {k : IntKind} {ad : Addr} {n : Nat} {xs : List Int} (h : (Kd.int k).C w (some ad) n xs) (i : Int) (h0 : 0 ≤ i) (h1 : i < n) : w.cell? (ad.add i.toNat) = some (.int k (rd xs i)) := by
  obtain ⟨ad', e, hc⟩ := Kd.at_int h i h0 h1
  cases e
  exact hc
theorem C_at_bool {w : World} {ad : Addr} {n : Nat} {xs : List Bool} (h : Kd.bool.C w (some ad) n xs) (i : Int) (h0 : 0 ≤ i) (h1 : i < n) : w.cell? (ad.add i.toNat) = some (.bool (rdOf false xs i)) := by
  obtain ⟨ad', e, hc⟩ := Kd.at_bool h i h0 h1
  cases e
  exact hc
/-! ### a slice of the call's own -/
theorem own_loc {w w' : World} {base e size n : Nat} {v : Value} {xs : List Value} (hk : ∀ k, v.ownBlock = some k → w'.heap[k]? = w.heap[k]?) (h : w.ownsRow base e size v n xs) : w'.ownsRow base e size v n xs := by
  obtain ⟨h1, h2⟩ := h
  refine ⟨h1, ?_⟩
  rcases h2 with h2 | ⟨g, cap, cur, hv, hg, hh, r⟩
  · exact .inl h2
  · exact .inr ⟨g, cap, cur, hv, hg, by rw [hk g (by rw [hv]; rfl)]; exact hh, r⟩
def row (e : Nat) {α : Type} (enc : α → Value) (v : Value) (xs : List α) : Ob where
  fp := fun k => v.ownBlock = some k
  ok := fun w => w.ownsRow 0 e 1 v xs.length (xs.map enc)
  loc := fun h k => own_loc h k
  lt := fun h k hk => own_lt h k hk
theorem Sep.nilrow {F : Nat → Prop} {w0 W : World} {l : List Ob} (h : Sep F w0 l W) (e : Nat) {α : Type} (enc : α → Value) : Sep F w0 (row e enc (.slice none 0 0) [] :: l) W :=
  ⟨h.fr, fun o ho => by
      rcases List.mem_cons.1 ho with rfl | ho
      · exact own_nil _ _ _ _
      · exact h.ok o ho,
   List.pairwise_cons.2 ⟨fun a _ k hk => by simp [row, Value.ownBlock] at hk, h.apart⟩,
   fun o ho k hk hlt => by
      rcases List.mem_cons.1 ho with rfl | ho
      · simp [row, Value.ownBlock] at hk
      · exact h.inF o ho k hk hlt⟩
theorem row_form {w : World} {e : Nat} {α : Type} {enc : α → Value} {v : Value} {xs : List α} (h : (row e enc v xs).ok w) : ∃ A c, v = .slice A xs.length c ∧ xs.length ≤ c := by
  rcases h.2 with ⟨rfl, h0⟩ | ⟨g, cap, cur, rfl, _, _, hc, _⟩
  · refine ⟨none, 0, ?_, by omega⟩
    rw [h0]
  · exact ⟨_, cap, rfl, hc⟩
theorem row_len {w : World} {e n c : Nat} {α : Type} {enc : α → Value} {A : Option Addr} {xs : List α} (h : (row e enc (.slice A n c) xs).ok w) : xs.length = n := by
  rcases h.2 with ⟨h1, h0⟩ | ⟨g, cap, cur, h1, _⟩
  · injection h1 with _ h1 _; rw [h0, h1]
  · injection h1 with _ h1 _; exact h1.symm
theorem row_C {w : World} {e n c : Nat} {α : Type} {enc : α → Value} {h1 : ∀ x, (enc x).oneCell' = true} (d : α) {A : Option Addr} {xs : List α} (h : (row e enc (.slice A n c) xs).ok w) : (Kd.scalar enc h1).C w A n xs := by
  obtain rfl := row_len h
  obtain ⟨A', c', he, hr⟩ := own_reads_of (d := d) (enc := enc) (show w.ownsRow 0 e 1 (.slice A xs.length c) xs.length (encs enc xs) from h)
  injection he with h1 h2 h3
  subst h1
  exact Kd.C_of_reads (d := d) hr
theorem row_Ci {w : World} {e n c : Nat} {k : IntKind} {A : Option Addr} {xs : List Int} (h : (row e (Value.int k) (.slice A n c) xs).ok w) : (Kd.int k).C w A n xs := row_C 0 h
theorem row_Cb {w : World} {e n c : Nat} {A : Option Addr} {xs : List Bool} (h : (row e Value.bool (.slice A n c) xs).ok w) : Kd.bool.C w A n xs := row_C false h
/-- A row of the call's own, at least one long: where it lies. -/
theorem row_at {w : World} {e n c : Nat} {α : Type} {enc : α → Value} {A : Option Addr} {xs : List α} (h : (row e enc (.slice A n c) xs).ok w) (h0 : 0 < n) : ∃ g, A = some ⟨g, 0, none⟩ := by
  have hl := row_len h
  rcases h.2 with ⟨_, h1⟩ | ⟨g, cap, cur, hv, _⟩
  · omega
  · injection hv with h1; exact ⟨g, h1⟩
theorem row_get {w : World} {e g n c : Nat} {α : Type} {enc : α → Value} (d : α) {xs : List α} (h : (row e enc (.slice (some ⟨g, 0, none⟩) n c) xs).ok w) (i : Int) (h0 : 0 ≤ i) (hi : i < (n : Int)) : w.cell? ⟨g, i.toNat, none⟩ = some (enc (rdOf d xs i)) ∧ w.frozen? ⟨g, i.toNat, none⟩ = false := by
  obtain rfl := row_len h
  constructor
  · have hc := World.ownsRow.cells h (g := g) rfl i.toNat (enc (rdOf d xs i)) (by
      have : i.toNat < xs.length := by omega
      simp [rdOf, List.getD_eq_getElem?_getD, List.getElem?_eq_getElem this])
    rwa [add_plain] at hc
  · rcases h.2 with ⟨h', _⟩ | ⟨g', cap', cur, h', _, hh, _⟩
    · cases h'
    · have : g = g' := by injection h' with h'; injection h' with h'; injection h' with h'
      subst this
      simp [World.frozen?, hh]
theorem row_put {w : World} {e g n c : Nat} {α : Type} {enc : α → Value} {xs : List α} (h : (row e enc (.slice (some ⟨g, 0, none⟩) n c) xs).ok w) (i : Int) (x : α) : (row e enc (.slice (some ⟨g, 0, none⟩) n c) (xs.set i.toNat x)).ok (w.setCell ⟨g, i.toNat, none⟩ (enc x)) := by
  obtain rfl := row_len h
  have hs := World.ownsRow.stored h i.toNat (enc x)
  have he : (xs.map enc).set i.toNat (enc x) = (xs.set i.toNat x).map enc := by rw [List.map_set]
  rw [he] at hs
  show World.ownsRow _ _ _ _ _ _ _
  rw [List.length_set]
  exact hs.1
theorem Sep.rowset {F : Nat → Prop} {w0 W : World} {l1 l2 : List Ob} {e g n c : Nat} {α : Type} {enc : α → Value} {xs : List α} (h : Sep F w0 (l1 ++ row e enc (.slice (some ⟨g, 0, none⟩) n c) xs :: l2) W) (i : Int) (x : α) :
    Sep F w0 (l1 ++ row e enc (.slice (some ⟨g, 0, none⟩) n c) (xs.set i.toNat x) :: l2) (W.setCell ⟨g, i.toNat, none⟩ (enc x)) :=
  h.upd (o' := row e enc (.slice (some ⟨g, 0, none⟩) n c) (xs.set i.toNat x)) (Fr.set (F := (row e enc (.slice (some ⟨g, 0, none⟩) n c) xs).fp) (p := ⟨g, i.toNat, none⟩) (Fr.refl _ W) (fun _ => rfl) _) (row_put (h.ok _ (by simp)) i x) (fun k hk => .inl hk)
theorem blk_news {W : World} {g t : Nat} {α : Type} {enc : α → Value} {xs : List α} (h : (blk g (xs.map enc).toArray t).ok W) : ∀ j u, (xs.map enc)[j]? = some u → W.cell? ((⟨g, 0, none⟩ : Addr).add j) = some u := by
  intro j u hu
  rw [add_plain]
  refine blk_cellv h j ?_
  simpa using hu
theorem mkLen_eq {N : Nat} {a : Int} {m : Nat} (h : Aside0 (mkLen N a = some m)) : a = (m : Int) ∧ m ≤ N := by
  have h := h.out
  unfold mkLen at h
  split at h
  · injection h with h; omega
  · cases h
section
variable {P : Program} {ops : Array Oper} {rest : List Oper} {o : Oper} {a : Act} {Q : Exit → Act → World → Prop}
/-- append(s, x...), s a row of the call's own, x read. -/
theorem append_event {W w0 : World} {F : Nat → Prop} {l1 l2 : List Ob} (hgd : o.guard = none) (s x : Operand) (t e : TypeId) (z : Value) (bytes : Nat)
    (ho : o.op = .call { callee := .builtin .append, args := #[s, x], argTypes := #[t, t] })
    (ht : P.underlying t = some (.slice e)) (hinfo : (P.info? e).map (fun i => (i.zero, i.size, i.bytes)) = some (some z, 1, bytes)) (hz : z.cells.size = 1) (hb0 : 0 < bytes)
    {α : Type} (enc : α → Value) (h1 : ∀ x, (enc x).oneCell' = true) (v : Value) (xs ys : List α) (ad : Addr) (c : Nat) (hs : a.eval s = v) (hx : a.eval x = .slice (some ad) ys.length c)
    (hy : ∀ j u, (ys.map enc)[j]? = some u → W.cell? (ad.add j) = some u)
    (HS : Sep F w0 (l1 ++ row e enc v xs :: l2) W) (hl : (xs.length + ys.length) * bytes ≤ 140737488355328) {zs : List α} (hzs : Aside0 (some (xs ++ ys) = some zs))
    (h : ∀ A' c' w1, Sep F w0 (l1 ++ row e enc (.slice A' zs.length c') zs :: l2) w1 → wpList P ops Q rest (a.put o.dst (.slice A' zs.length c')) w1) :
    wpList P ops Q (o :: rest) a W := by
  obtain rfl := Option.some.inj hzs.out
  obtain ⟨i0, hi, hzz⟩ := Option.map_eq_some_iff.1 hinfo
  simp only [Prod.mk.injEq] at hzz
  obtain ⟨hz0, hz1, hz2⟩ := hzz
  have HO : W.ownsRow 0 e 1 v xs.length (xs.map enc) := HS.ok (row e enc v xs) (by simp)
  have hlen : xs.length + ys.length ≤ 140737488355328 := Nat.le_trans (Nat.le_mul_of_pos_right _ hb0) hl
  refine wpList_append_own_at W hgd s x t ho 0 e i0 z 1 bytes ht hi hz0 hz1 hz2 hz (by omega) v xs.length (xs.map enc) hs HO ad ys.length c (ys.map enc) hx (by simp) hy
    (by intro u hu; obtain ⟨y, _, rfl⟩ := List.mem_map.1 hu; exact h1 y) (by simp only [maxLen]; omega) hl (Nat.zero_le _) ?_
  intro v1 w1 hown hg _ hat
  have hok : (row e enc v1 (xs ++ ys)).ok w1 := by
    show w1.ownsRow 0 e 1 v1 (xs ++ ys).length ((xs ++ ys).map enc)
    rw [List.length_append, List.map_append]; exact hown
  have HS1 : Sep F w0 (l1 ++ row e enc v1 (xs ++ ys) :: l2) w1 := HS.upd (o' := row e enc v1 (xs ++ ys)) ⟨hg.os, hg.tape, hg.output, hg.size, fun k hk hF => hg.block k hk (fun he => hF he.symm)⟩ hok (fun k hk => by
    rcases hat with hat | hat
    · exact .inl (by show v.ownBlock = some k; rw [← hat]; exact hk)
    · right
      have : some W.heap.size = some k := hat.symm.trans hk
      injection this with this
      omega)
  obtain ⟨A', c', rfl, _⟩ := row_form hok
  exact h A' c' w1 HS1
end
section
variable {P : Program} {ops : Array Oper} {rest : List Oper} {o : Oper} {a : Act} {Q : Exit → Act → World → Prop}
/-- make([]T, n). -/
theorem make_event {W w0 : World} {F : Nat → Prop} {l : List Ob} (hgd : o.guard = none) {N : Tmp} (_hd : o.dst = some N) (t e : TypeId) (x y : Operand) (ho : o.op = .makeSlice t x y) (kx : IntKind) (z : Value) (bytes : Nat)
    (ht : P.underlying t = some (.slice e)) (hinfo : (P.info? e).map (fun i => (i.zero, i.size, i.bytes)) = some (some z, 1, bytes)) (hz : z.cells = #[z]) (hb0 : 0 < bytes)
    {α : Type} (enc : α → Value) (z0 : α) (hz0 : enc z0 = z) (m : Nat) (hx : a.eval x = .int kx (m : Int)) (hy : a.eval y = .int kx (m : Int)) (hm : m * bytes ≤ 281474976710656) (HS : Sep F w0 l W)
    (h : ∀ g w1, Sep F w0 (l ++ [row e enc (.slice (some ⟨g, 0, none⟩) m m) (List.replicate m z0)]) w1 → wpList P ops Q rest (a.put o.dst (.slice (some ⟨g, 0, none⟩) m m)) w1) : wpList P ops Q (o :: rest) a W := by
  have hm' : m ≤ 281474976710656 := Nat.le_trans (Nat.le_mul_of_pos_right _ hb0) hm
  have hrun := run_make_row' (P := P) t e z bytes ht hinfo hz kx kx m (by rw [Nat.mul_comm]; exact hm) (by omega) W
  have hr : (execOp a.eval o).run P W = .ok (.value (.slice (some ⟨W.heap.size, 0, none⟩) m m)) (W.alloc (.cells (madeCells #[z] m) e)) := by
    unfold execOp
    simp [ho, hx, hy, hrun]
  refine Kd.event_run hgd hr (h _ _ ?_)
  refine HS.new (Fr.of_below (below_alloc (Below.refl _ _) _)) (o := row e enc (.slice (some ⟨W.heap.size, 0, none⟩) m m) (List.replicate m z0)) ?_ (fun k hk => ?_)
  · have h := World.ownsRow_lit (base := 0) (e := e) (size := 1) W (madeCells #[z] m) m (Nat.zero_le _) (by simp only [maxLen]; omega) (by simp [size_madeCells])
    have hl : (madeCells #[z] m).toList = (List.replicate m z0).map enc := by
      apply List.ext_getElem
      · simp [madeCells]
      · intro i h1 h2
        simp [madeCells, Nat.mod_one, hz0]
    rw [hl] at h
    show World.ownsRow _ _ _ _ _ _ _
    rw [List.length_replicate]
    exact h
  · have : (Value.slice (some ⟨W.heap.size, 0, none⟩) m m).ownBlock = some k := hk
    injection this with this
    exact Nat.le_of_eq this
end
/-! ### steps of the model -/
theorem bind_some {α β : Type} {x : Option α} {f : α → Option β} {r : β} (H : Aside0 (x.bind f = some r)) : ∃ t, Aside0 (x = some t) ∧ Aside0 (f t = some r) := by
  obtain ⟨t, h1, h2⟩ := Option.bind_eq_some_iff.mp H.out
  exact ⟨t, ⟨h1⟩, ⟨h2⟩⟩
theorem if_yes {α : Type} {c : Prop} [Decidable c] {a b : Option α} {r : α} (h : c) (H : Aside0 ((if c then a else b) = some r)) : Aside0 (a = some r) := ⟨by have := H.out; rwa [if_pos h] at this⟩
theorem if_no {α : Type} {c : Prop} [Decidable c] {a b : Option α} {r : α} (h : ¬ c) (H : Aside0 ((if c then a else b) = some r)) : Aside0 (b = some r) := ⟨by have := H.out; rwa [if_neg h] at this⟩
theorem some_eq {α : Type} {a r : α} (H : Aside0 (some a = some r)) : a = r := Option.some.inj H.out
theorem none_no {α : Type} {r : α} (H : Aside0 ((none : Option α) = some r)) : False := by cases H.out
theorem lp_ret {S R T : Type} {x : R} {g : R → Option T} {f : S → Option T} {r : T} (H : Aside0 (Lp.elim (Lp.ret x) g f = some r)) : Aside0 (g x = some r) := ⟨H.out⟩
theorem lp_out {S R T : Type} {x : S} {g : R → Option T} {f : S → Option T} {r : T} (H : Aside0 (Lp.elim (Lp.out x) g f = some r)) : Aside0 (f x = some r) := ⟨H.out⟩
section
variable {P : Program} {ops : Array Oper} {rest : List Oper} {o : Oper} {a : Act} {Q : Exit → Act → World → Prop}
/-- An operation that is performed (without a guard, or its guard holds), by its run. -/
theorem run_on {W w1 : World} {v : Value} (hw : Region.wanted o (yielded ops a.tmps) = true) (hrun : (execOp a.eval o).run P W = .ok (.value v) w1) (h : wpList P ops Q rest (a.put o.dst v) w1) : wpList P ops Q (o :: rest) a W := by
  refine wpList_step fun K hK => ?_
  rw [if_pos hw]
  unfold Oper.wp
  rw [hrun]
  exact hK _ _ h
theorem box_on {W : World} (hw : Region.wanted o (yielded ops a.tmps) = true) {N : Tmp} (_hd : o.dst = some N) {cs : Array Value} {t : TypeId}
    (hrun : (execOp a.eval o).run P W = .ok (.value (.pointer (some ⟨W.heap.size, 0, none⟩))) (W.alloc (.cells cs t (0, 0))))
    (h : ∀ g, g = W.heap.size → ∀ w1, w1.heap[g]? = some (.cells cs t (0, 0)) → Below W.heap.size W w1 → wpList P ops Q rest (a.put o.dst (.pointer (some ⟨g, 0, none⟩))) w1) : wpList P ops Q (o :: rest) a W :=
  run_on hw hrun (h _ rfl _ (blk_new W _) (below_alloc (Below.refl _ _) _))
/-- A literal slice. -/
theorem slice_on {W : World} {n : Nat} (hw : Region.wanted o (yielded ops a.tmps) = true) {N : Tmp} (_hd : o.dst = some N) {cs : Array Value} {t : TypeId}
    (hrun : (execOp a.eval o).run P W = .ok (.value (.slice (some ⟨W.heap.size, 0, none⟩) n n)) (W.alloc (.cells cs t (0, 0))))
    (h : ∀ g, g = W.heap.size → ∀ w1, w1.heap[g]? = some (.cells cs t (0, 0)) → Below W.heap.size W w1 → wpList P ops Q rest (a.put o.dst (.slice (some ⟨g, 0, none⟩) n n)) w1) : wpList P ops Q (o :: rest) a W :=
  run_on hw hrun (h _ rfl _ (blk_new W _) (below_alloc (Below.refl _ _) _))
end
theorem slice_step {P : Program} {ops : Array Oper} {o : Oper} {a : Act} {Q : Exit → Act → World → Prop} {Kc : Act → World → Prop} {W : World} {n : Nat} (hw : Region.wanted o (yielded ops a.tmps) = true) {N : Tmp} (_hd : o.dst = some N) {cs : Array Value} {t : TypeId}
    (hrun : (execOp a.eval o).run P W = .ok (.value (.slice (some ⟨W.heap.size, 0, none⟩) n n)) (W.alloc (.cells cs t (0, 0))))
    (h : ∀ g, g = W.heap.size → ∀ w1, w1.heap[g]? = some (.cells cs t (0, 0)) → Below W.heap.size W w1 → Kc (a.put o.dst (.slice (some ⟨g, 0, none⟩) n n)) w1) : if Region.wanted o (yielded ops a.tmps) = true then Oper.wp P o a W Kc Q else Kc (a.put o.dst undef) W :=
  event_step hw hrun (h _ rfl _ (blk_new W _) (below_alloc (Below.refl _ _) _))
theorem store_step {P : Program} {ops : Array Oper} {oi : Oper} {a : Act} {Q : Exit → Act → World → Prop} {K : Act → World → Prop} {w w1 : World} (hw : Region.wanted oi (yielded ops a.tmps) = true) (hN : oi.dst = none)
    (hrun : (execOp a.eval oi).run P w = .ok .skip w1) (h : ∀ w', w' = w1 → K a w') : if Region.wanted oi (yielded ops a.tmps) = true then Oper.wp P oi a w K Q else K (a.put none undef) w :=
  skip_ hw hN hrun (h _ rfl)
theorem C_of_blk {W : World} {g t : Nat} {k : IntKind} {xs : List Int} (h : (blk g (xs.map (Value.int k)).toArray t).ok W) (hx : xs.length ≤ 9223372036854775807) : Kd.C (Kd.int k) W (some ⟨g, 0, none⟩) xs.length xs := by
  refine Kd.C_of_reads (d := 0) ⟨rfl, hx, fun _ => ⟨_, rfl, fun j hj => ?_⟩⟩
  rw [add_plain]
  refine blk_cellv h j ?_
  simp [hj]
theorem run_index_ints {P : Program} (t e : TypeId) (n : Nat) (k kx : IntKind) (xs : List Int) (i : Int) (h : P.underlying t = some (.array n e)) (aE : ∀ w, (isAgg e).run P w = .ok false w) (zE : ∀ w, (Go.sizeOf e).run P w = .ok 1 w) (hlen : xs.length = n) (h0 : 0 ≤ i) (h1 : i < (n : Int)) (w : World) :
    (Instr.index t (.agg (xs.map (Value.int k)).toArray) (.int kx i)).run P w = .ok (.int k (rd xs i)) w := by
  have hn : 0 ≤ i ∧ i < (n : Int) := ⟨h0, h1⟩
  have hx : xs[i.toNat]? = some (rd xs i) := by
    have : i.toNat < xs.length := by omega
    simp [rd, List.getD_eq_getElem?_getD, List.getElem?_eq_getElem this]
  simp [Instr.index, run_underlying h, asIntOf, hn, go_sem, aE, zE, part, hx]
/-- A block that stands as it stood: nothing that was there has changed. -/
theorem Sep.still1 {w W : World} {g t : Nat} {a : Array Value} (h0 : Sep (fps [blk g a t]) w [blk g a t] w) (hf : Fr (fps [blk g a t]) w W) (h : (blk g a t).ok W) : Below w.heap.size w W :=
  ⟨hf.os, hf.tape, hf.output, hf.size, fun k hk => by
    by_cases hF : fps [blk g a t] k
    · obtain ⟨o, ho, hk'⟩ := hF
      obtain rfl : o = blk g a t := by simpa using ho
      obtain rfl : k = g := hk'
      exact (show W.heap[k]? = _ from h).trans (show w.heap[k]? = _ from h0.at0).symm
    · exact hf.block k hk hF⟩
theorem Sep.still2 {w W : World} {g t g' t' : Nat} {a a' : Array Value} (h0 : Sep (fps [blk g a t, blk g' a' t']) w [blk g a t, blk g' a' t'] w) (hf : Fr (fps [blk g a t, blk g' a' t']) w W) (h : (blk g a t).ok W) (h' : (blk g' a' t').ok W) : Below w.heap.size w W :=
  ⟨hf.os, hf.tape, hf.output, hf.size, fun k hk => by
    by_cases hF : fps [blk g a t, blk g' a' t'] k
    · obtain ⟨o, ho, hk'⟩ := hF
      simp only [List.mem_cons, List.mem_nil_iff, or_false] at ho
      rcases ho with rfl | rfl
      · obtain rfl : k = g := hk'
        exact (show W.heap[k]? = _ from h).trans (show w.heap[k]? = _ from h0.at0).symm
      · obtain rfl : k = g' := hk'
        exact (show W.heap[k]? = _ from h').trans (show w.heap[k]? = _ from h0.at1).symm
    · exact hf.block k hk hF⟩
theorem eqItems_ints {P : Program} (d : Nat) (e : TypeId) (k : IntKind) (xs ys : List Int) (he : P.underlying e = some (.int k)) (aE : ∀ w, (isAgg e).run P w = .ok false w) (w : World) : ∀ is : List Nat, (∀ i ∈ is, i < xs.length ∧ i < ys.length) →
    (Op.eqItems (d + 1) e 1 (xs.map (Value.int k)).toArray (ys.map (Value.int k)).toArray is).run P w = .ok (is.all fun (i : Nat) => rd xs (i : Int) == rd ys (i : Int)) w
  | [], _ => by simp [Op.eqItems]
  | i :: is, h => by
    have h1 := (h i (by simp)).1
    have h2 := (h i (by simp)).2
    have hx : (xs.map (Value.int k))[i]? = some (.int k (rd xs (i : Int))) := by simp [rd, List.getD_eq_getElem?_getD, List.getElem?_eq_getElem h1]
    have hy : (ys.map (Value.int k))[i]? = some (.int k (rd ys (i : Int))) := by simp [rd, List.getD_eq_getElem?_getD, List.getElem?_eq_getElem h2]
    have ih := eqItems_ints d e k xs ys he aE w is (fun j hj => h j (by simp [hj]))
    have p1 : (part e (xs.map (Value.int k)).toArray (i * 1)).run P w = .ok (.int k (rd xs (i : Int))) w := by
      simp [part, aE, go_sem, hx]
    have p2 : (part e (ys.map (Value.int k)).toArray (i * 1)).run P w = .ok (.int k (rd ys (i : Int))) w := by
      simp [part, aE, go_sem, hy]
    have p3 : (Op.equalIn (d + 1) e (.int k (rd xs (i : Int))) (.int k (rd ys (i : Int)))).run P w = .ok (rd xs (i : Int) == rd ys (i : Int)) w := by
      simp [Op.equalIn, run_underlying he, go_sem]
    simp only [Op.eqItems, Sem.run_bind, p1, p2, p3, Result.andThen_ok, List.all_cons]
    cases rd xs (i : Int) == rd ys (i : Int)
    · simp
    · simpa using ih
theorem all_range {xs ys : List Int} {n : Nat} (hx : xs.length = n) (hy : ys.length = n) : ((List.range n).all fun (i : Nat) => rd xs (i : Int) == rd ys (i : Int)) = (xs == ys) := by
  rw [Bool.eq_iff_iff, List.all_eq_true, beq_iff_eq]
  constructor
  · intro h
    apply List.ext_getElem (by omega)
    intro i h1 h2
    have := h i (by simp; omega)
    simpa [rd, List.getD_eq_getElem?_getD, List.getElem?_eq_getElem h1, List.getElem?_eq_getElem h2] using this
  · rintro rfl i _; simp
theorem run_eq_ints {P : Program} (d : Nat) (t e : TypeId) (n : Nat) (k : IntKind) (xs ys : List Int) (hu : P.underlying t = some (.array n e)) (hi0 : (P.info? e).isSome = true) (hc : P.cellsOf e = 1) (he : P.underlying e = some (.int k)) (aE : ∀ w, (isAgg e).run P w = .ok false w) (hx : xs.length = n) (hy : ys.length = n) (w : World) :
    (Op.equalIn (d + 2) t (.agg (xs.map (Value.int k)).toArray) (.agg (ys.map (Value.int k)).toArray)).run P w = .ok (xs == ys) w := by
  obtain ⟨_, hi⟩ := Option.isSome_iff_exists.1 hi0
  rw [run_equalIn_array w (d + 1) _ _ hu hi, hc, eqItems_ints d e k xs ys he aE w _ (fun i hi => by simp at hi; omega), all_range hx hy]
theorem Sep.litrow {F : Nat → Prop} {w0 W : World} {l1 l2 : List Ob} {g e n : Nat} {α : Type} {enc : α → Value} {xs : List α} (h : Sep F w0 (l1 ++ blk g (xs.map enc).toArray e :: l2) W) (hn : xs.length = n) (hm : n ≤ 1000000) : Sep F w0 (l1 ++ row e enc (.slice (some ⟨g, 0, none⟩) n n) xs :: l2) W := by
  subst hn
  refine h.upd (o' := row e enc (.slice (some ⟨g, 0, none⟩) xs.length xs.length) xs) (Fr.refl _ W) ?_ (fun k hk => .inl ?_)
  · have h0 : W.heap[g]? = some (.cells (xs.map enc).toArray e (0, 0)) := h.ok (blk g (xs.map enc).toArray e) (by simp)
    refine ⟨by simp, .inr ⟨g, xs.length, _, rfl, Nat.zero_le _, h0, Nat.le_refl _, ?_, by simp, by rw [Nat.mul_one]; exact List.take_of_length_le (by simp)⟩⟩
    simp only [maxLen]; omega
  · have hk' : (Value.slice (some ⟨g, 0, none⟩) xs.length xs.length).ownBlock = some k := hk
    injection hk' with hk'
    exact hk'.symm
/-! ### rows and globals that are read beside things that change -/
theorem cell_stay {w W : World} {p : Addr} {u : Value} (hb : W.heap[p.block]? = w.heap[p.block]?) (h : w.cell? p = some u) : W.cell? p = some u := by
  unfold World.cell? at h ⊢
  rw [hb]; exact h
theorem cell_lt {w : World} {p : Addr} {u : Value} (h : w.cell? p = some u) : p.block < w.heap.size := by
  unfold World.cell? at h
  split at h
  · next c _ _ he => exact (Array.getElem?_eq_some_iff.1 he).1
  · cases h
theorem add_block (a : Addr) (n : Nat) : (a.add n).block = a.block := by unfold Addr.add; split <;> rfl
structure Rd {α : Type} (K : Kd α) (F : Nat → Prop) (w : World) (A : Option Addr) (n : Nat) (xs : List α) : Prop where
  c : K.C w A n xs
  off : n ≠ 0 → ∀ a, A = some a → ¬ F a.block
theorem Rd.of_C {α : Type} {K : Kd α} {w : World} {A : Option Addr} {n : Nat} {xs : List α} (h : K.C w A n xs) : Rd K (fps []) w A n xs := ⟨h, fun _ _ _ => fps_nil _⟩
theorem Rd.nil {α : Type} (K : Kd α) (F : Nat → Prop) (w : World) : Rd K F w none ([] : List α).length [] := ⟨Kd.C_nil _ _, fun h => absurd rfl h⟩
theorem Rd.read {α : Type} {K : Kd α} {F : Nat → Prop} {w W : World} {A : Option Addr} {n : Nat} {xs : List α} (hK : ∀ w w' x cs, K.K w x cs → K.K w' x cs) (h : Rd K F w A n xs) (hf : Fr F w W) : K.C W A n xs := by
  refine ⟨h.c.1, h.c.2.1, fun hn => ?_⟩
  obtain ⟨ad, e, hc⟩ := h.c.2.2 hn
  refine ⟨ad, e, fun j p hj => ?_⟩
  obtain ⟨c, hs, hr, hcell⟩ := hc j p hj
  refine ⟨c, hs, hK _ _ _ _ hr, fun i u hu => ?_⟩
  have h1 := hcell i u hu
  refine cell_stay (hf.block _ (cell_lt h1) ?_) h1
  rw [add_block]
  exact h.off (by omega) ad e
theorem C_lt {α : Type} {K : Kd α} {w : World} {a : Addr} {n : Nat} {xs : List α} (hs : 0 < K.sz) (h : K.C w (some a) n xs) (hn : n ≠ 0) : a.block < w.heap.size := by
  obtain ⟨ad, e, hc⟩ := h.2.2 (by omega)
  injection e with e
  subst e
  have h0 : 0 < xs.length := by have := h.1; omega
  obtain ⟨c, hl, _, hcell⟩ := hc 0 _ (List.getElem?_eq_getElem h0)
  have h1 := cell_lt (hcell 0 _ (List.getElem?_eq_getElem (by omega)))
  rwa [add_block] at h1
theorem Sep.off {F : Nat → Prop} {w W : World} {l rest : List Ob} (hS : Sep F w (l ++ rest) W) {k : Nat} (hk : k < w.heap.size) (hF : ¬ F k) : ¬ fps l k :=
  fun ⟨o, ho, hko⟩ => hF (hS.inF o (List.mem_append_left _ ho) k hko hk)
theorem Sep.offO {F : Nat → Prop} {w W : World} {l rest : List Ob} (hS : Sep F w (l ++ rest) W) {o : Ob} (ho : o ∈ rest) {k : Nat} (hk : o.fp k) : ¬ fps l k :=
  fun ⟨x, hx, hkx⟩ => (List.pairwise_append.1 hS.apart).2.2 x hx o ho k hkx hk
theorem Rd.pass {α : Type} {K : Kd α} {F : Nat → Prop} {w W : World} {l rest : List Ob} {A : Option Addr} {n : Nat} {xs : List α} (hs : 0 < K.sz) (hK : ∀ w w' x cs, K.K w x cs → K.K w' x cs) (h : Rd K F w A n xs) (hS : Sep F w (l ++ rest) W) : Rd K (fps l) W A n xs :=
  ⟨h.read hK hS.fr, fun hn a ha => by subst ha; exact hS.off (C_lt hs h.c hn) (h.off hn a rfl)⟩
theorem Rd.own {α : Type} {enc : α → Value} {h1 : ∀ x, (enc x).oneCell' = true} (d : α) {F : Nat → Prop} {w W : World} {l rest : List Ob} {A : Option Addr} {n e c : Nat} {xs : List α} (hS : Sep F w (l ++ rest) W) (i : Nat) (hi : rest[i]? = some (row e enc (.slice A n c) xs)) : Rd (Kd.scalar enc h1) (fps l) W A n xs := by
  have hm := List.mem_of_getElem? hi
  refine ⟨row_C d (hS.ok _ (List.mem_append_right _ hm)), fun _ a ha => hS.offO hm ?_⟩
  subst ha
  exact (rfl : (Value.slice (some a) n c).ownBlock = some a.block)
theorem Rd.ownI {F : Nat → Prop} {w W : World} {l rest : List Ob} {A : Option Addr} {n e c : Nat} {k : IntKind} {xs : List Int} (hS : Sep F w (l ++ rest) W) (i : Nat) (hi : rest[i]? = some (row e (Value.int k) (.slice A n c) xs)) : Rd (Kd.int k) (fps l) W A n xs := Rd.own 0 hS i hi
theorem Rd.ownB {F : Nat → Prop} {w W : World} {l rest : List Ob} {A : Option Addr} {n e c : Nat} {xs : List Bool} (hS : Sep F w (l ++ rest) W) (i : Nat) (hi : rest[i]? = some (row e Value.bool (.slice A n c) xs)) : Rd Kd.bool (fps l) W A n xs := Rd.own false hS i hi
theorem Rd.lit {F : Nat → Prop} {w W : World} {l rest : List Ob} {g t : Nat} {k : IntKind} {xs : List Int} (hS : Sep F w (l ++ rest) W) (i : Nat) (hi : rest[i]? = some (blk g (xs.map (Value.int k)).toArray t)) (hx : xs.length ≤ 9223372036854775807) : Rd (Kd.int k) (fps l) W (some ⟨g, 0, none⟩) xs.length xs := by
  have hm := List.mem_of_getElem? hi
  refine ⟨C_of_blk (hS.ok _ (List.mem_append_right _ hm)) hx, fun _ a ha => hS.offO hm ?_⟩
  injection ha with ha
  subst ha
  exact (rfl : g = g)
/-- A global's cells, as they were laid. -/
structure Gl (g : Nat) (cs : Array Value) (F : Nat → Prop) (w : World) : Prop where
  is : ∀ i v, cs[i]? = some v → w.cell? ⟨g, i, none⟩ = some v
  off : ¬ F g
  pos : 0 < cs.size
theorem Gl.cell {g : Nat} {cs : Array Value} {F : Nat → Prop} {w W : World} (h : Gl g cs F w) (hf : Fr F w W) (i : Nat) {v : Value} (hv : cs[i]? = some v) : W.cell? ⟨g, i, none⟩ = some v :=
  cell_stay (p := ⟨g, i, none⟩) (hf.block _ (cell_lt (h.is i v hv)) h.off) (h.is i v hv)
theorem Gl.pass {g : Nat} {cs : Array Value} {F : Nat → Prop} {w W : World} {l rest : List Ob} (h : Gl g cs F w) (hS : Sep F w (l ++ rest) W) : Gl g cs (fps l) W :=
  ⟨fun i _ hv => h.cell hS.fr i hv, hS.off (cell_lt (h.is 0 _ (Array.getElem?_eq_getElem h.pos))) h.off, h.pos⟩
theorem sum_l {A B R : Type} {f : A → Option R} {g : B → Option R} {x : A} {r : R} (H : Aside0 (Sum.elim f g (.inl x) = some r)) : Aside0 (f x = some r) := ⟨H.out⟩
theorem sum_r {A B R : Type} {f : A → Option R} {g : B → Option R} {x : B} {r : R} (H : Aside0 (Sum.elim f g (.inr x) = some r)) : Aside0 (g x = some r) := ⟨H.out⟩
section
variable {P : Program} {ops : Array Oper} {rest : List Oper} {o : Oper} {a : Act} {Q : Exit → Act → World → Prop}
/-- copy(s, x), s a row of the call's own, x read. -/
theorem copy_event {W w0 : World} {F : Nat → Prop} {l1 l2 : List Ob} (hgd : o.guard = none) (s x : Operand) (t t' e : TypeId)
    (ho : o.op = .call { callee := .builtin .copy, args := #[s, x], argTypes := #[t, t'] }) (ht : P.underlying t = some (.slice e)) (hinfo : (P.info? e).map (·.size) = some 1)
    {α : Type} {enc : α → Value} {h1 : ∀ x, (enc x).oneCell' = true} (d : α) (v : Value) (xs ys : List α) (A : Option Addr) (m c : Nat) (hs : a.eval s = v) (hx : a.eval x = .slice A m c)
    (HR : (Kd.scalar enc h1).C W A m ys) (HS : Sep F w0 (l1 ++ row e enc v xs :: l2) W) {zs : List α} (hzs : Aside0 (some (ys.take (min m xs.length) ++ xs.drop (min m xs.length)) = some zs))
    (h : ∀ w1, Sep F w0 (l1 ++ row e enc v zs :: l2) w1 → wpList P ops Q rest (a.put o.dst (.int .i64 ((min m xs.length : Nat) : Int))) w1) :
    wpList P ops Q (o :: rest) a W := by
  obtain rfl := Option.some.inj hzs.out
  have HO : W.ownsRow 0 e 1 v xs.length (xs.map enc) := HS.ok (row e enc v xs) (by simp)
  refine Kd.R_copy (enc := enc) (h1 := h1) d (w0 := W) 0 hgd s x t t' e ho ht hinfo v xs ys A m c (fun _ => True) hs hx (Kd.R_of_own HO (fun _ _ => trivial)) HR (Below.refl 0 W) (Nat.zero_le _) ?_
  intro w1 hR _ hg
  refine h w1 (HS.upd (o' := row e enc v _) ⟨hg.os, hg.tape, hg.output, hg.size, fun k hk hF => hg.block k hk (fun he => hF he.symm)⟩ (Kd.own_of_R hR) (fun k hk => .inl hk))
end
theorem run_indexAt_arr {P : Program} (t e n g off sz : Nat) (kx : IntKind) (i : Int) (j : Nat) (hi : i = (j : Int)) (hj : j < n) (h : P.underlying t = some (.array n e)) (hz : ∀ w, (Go.sizeOf e).run P w = .ok sz w) (w : World) :
    (Instr.indexAt t (.pointer (some ⟨g, off, none⟩)) (.int kx i)).run P w = .ok (.pointer (some ⟨g, off + j * sz, none⟩)) w := by
  subst hi
  have hj0 : (0 : Int) ≤ (j : Int) := by omega
  simp [Instr.indexAt, run_underlying h, asIntOf, Instr.sureAddr, hj, hj0, go_sem, hz]
theorem C_news {W : World} {k : IntKind} {ad : Addr} {n : Nat} {xs : List Int} (h : (Kd.int k).C W (some ad) n xs) : ∀ j u, (xs.map (Value.int k))[j]? = some u → W.cell? (ad.add j) = some u := by
  intro j u hu
  have hj : j < xs.length := by
    rcases Nat.lt_or_ge j xs.length with h | h
    · exact h
    · rw [List.getElem?_eq_none (by simpa using h)] at hu; cases hu
  have := C_at_int h (j : Int) (by omega) (by have := h.1; omega)
  simp only [Int.toNat_natCast] at this
  rw [this, ← hu]
  simp [rd, List.getD_eq_getElem?_getD, List.getElem?_eq_getElem hj]
theorem run_on2 {P : Program} {ops : Array Oper} {rest : List Oper} {o : Oper} {a : Act} {Q : Exit → Act → World → Prop} {W w1 : World} {v : Value} (hw : Region.wanted o (yielded ops a.tmps) = true) (hrun : (execOp a.eval o).run P W = .ok (.value v) w1) (h : ∀ w', w' = w1 → wpList P ops Q rest (a.put o.dst v) w') : wpList P ops Q (o :: rest) a W := run_on hw hrun (h _ rfl)
theorem setCells_all {g t : Nat} : ∀ (vs : List Value) (o : Nat) (cs : Array Value) (W : World), o + vs.length = cs.size → W.heap[g]? = some (.cells cs t (0, 0)) → (World.setCells W g o vs).heap[g]? = some (.cells (cs.toList.take o ++ vs).toArray t (0, 0)) ∧ Fr (fun k => k = g) W (World.setCells W g o vs)
  | [], o, cs, W, hl, h => by
    refine ⟨?_, Fr.refl _ _⟩
    rw [World.setCells, h, List.append_nil, List.take_of_length_le (by simp at hl ⊢; omega)]
  | v :: r, o, cs, W, hl, h => by
    have h1 : (W.setCell ⟨g, o, none⟩ v).heap[g]? = some (.cells (cs.setIfInBounds o v) t (0, 0)) := blk_put (g := g) (t := t) (cs := cs) h o v
    obtain ⟨h2, h3⟩ := setCells_all (t := t) r (o + 1) _ _ (by simp at hl ⊢; omega) h1
    refine ⟨?_, (Fr.set (Fr.refl (fun k => k = g) W) (p := ⟨g, o, none⟩) (fun _ => rfl) v).trans h3⟩
    rw [World.setCells, h2]
    have ho : o < cs.size := by simp at hl; omega
    have hlen : (cs.toList.take o).length = o := by
      rw [List.length_take, Array.length_toList]; omega
    have hq : (cs.setIfInBounds o v).toList.take (o + 1) = cs.toList.take o ++ [v] := by
      rw [Array.toList_setIfInBounds, List.take_set, List.take_add_one, List.set_append_right _ _ (by omega), hlen, Nat.sub_self]
      simp [ho]
    rw [hq, List.append_assoc]
    rfl
theorem Sep.setAll {F : Nat → Prop} {w0 W : World} {l1 l2 : List Ob} {g t : Nat} {cs : Array Value} (h : Sep F w0 (l1 ++ blk g cs t :: l2) W) (vs : List Value) (hl : vs.length = cs.size) : Sep F w0 (l1 ++ blk g vs.toArray t :: l2) (World.setCells W g 0 vs) := by
  obtain ⟨h1, h2⟩ := setCells_all (g := g) (t := t) vs 0 cs W (by omega) (h.ok (blk g cs t) (by simp))
  refine h.upd (o' := blk g vs.toArray t) h2 ?_ (fun k hk => .inl hk)
  have h3 : (World.setCells W g 0 vs).heap[g]? = some (.cells vs.toArray t (0, 0)) := by simpa using h1
  exact h3
theorem Sep.sub {F : Nat → Prop} {w0 W : World} {l l' : List Ob} (h : Sep F w0 l W) (hs : l'.Sublist l) : Sep F w0 l' W :=
  ⟨h.fr, fun o ho => h.ok o (hs.subset ho), h.apart.sublist hs, fun o ho => h.inF o (hs.subset ho)⟩
/-- append(s, x...) as one step of a region that draws. -/
theorem append_step {P : Program} {ops : Array Oper} {o : Oper} {a : Act} {Q : Exit → Act → World → Prop} {Kc : Act → World → Prop} {W w0 : World} {F : Nat → Prop} {l1 l2 : List Ob} (hw : Region.wanted o (yielded ops a.tmps) = true) (s x : Operand) (t e : TypeId) (z : Value) (bytes : Nat)
    (ho : o.op = .call { callee := .builtin .append, args := #[s, x], argTypes := #[t, t] })
    (ht : P.underlying t = some (.slice e)) (hinfo : (P.info? e).map (fun i => (i.zero, i.size, i.bytes)) = some (some z, 1, bytes)) (hz : z.cells.size = 1) (hb0 : 0 < bytes)
    {α : Type} (enc : α → Value) (h1 : ∀ x, (enc x).oneCell' = true) (v : Value) (xs ys : List α) (ad : Addr) (c : Nat) (hs : a.eval s = v) (hx : a.eval x = .slice (some ad) ys.length c)
    (hy : ∀ j u, (ys.map enc)[j]? = some u → W.cell? (ad.add j) = some u)
    (HS : Sep F w0 (l1 ++ row e enc v xs :: l2) W) (hl : (xs.length + ys.length) * bytes ≤ 140737488355328) {zs : List α} (hzs : Aside0 (some (xs ++ ys) = some zs))
    (h : ∀ A' c' w1, Sep F w0 (l1 ++ row e enc (.slice A' zs.length c') zs :: l2) w1 → Kc (a.put o.dst (.slice A' zs.length c')) w1) :
    if Region.wanted o (yielded ops a.tmps) = true then Oper.wp P o a W Kc Q else Kc (a.put o.dst undef) W := by
  obtain rfl := Option.some.inj hzs.out
  obtain ⟨i0, hi, hzz⟩ := Option.map_eq_some_iff.1 hinfo
  simp only [Prod.mk.injEq] at hzz
  obtain ⟨hz0, hz1, hz2⟩ := hzz
  have HO : W.ownsRow 0 e 1 v xs.length (xs.map enc) := HS.ok (row e enc v xs) (by simp)
  have hlen : xs.length + ys.length ≤ 140737488355328 := Nat.le_trans (Nat.le_mul_of_pos_right _ hb0) hl
  obtain ⟨v1, w1, hr, hown, hg, _, hat⟩ := run_append_own_at (P := P) W 0 t o.type e i0 z 1 bytes ht hi hz0 hz1 hz2 hz (by omega) v xs.length (xs.map enc) HO ad ys.length c (ys.map enc) (by simp) hy
    (by intro u hu; obtain ⟨y, _, rfl⟩ := List.mem_map.1 hu; exact h1 y) (by simp only [maxLen]; omega) hl (Nat.zero_le _)
  have hrun : (execOp a.eval o).run P W = .ok (.value v1) w1 := by
    unfold execOp
    simp only [ho, resolve, invoke, builtin, Sem.run_bind, Sem.run_pure, Result.andThen_ok, List.map_toArray, List.map_cons, List.map_nil, hs, hx, hr]
  have hok : (row e enc v1 (xs ++ ys)).ok w1 := by
    show w1.ownsRow 0 e 1 v1 (xs ++ ys).length ((xs ++ ys).map enc)
    rw [List.length_append, List.map_append]; exact hown
  have HS1 : Sep F w0 (l1 ++ row e enc v1 (xs ++ ys) :: l2) w1 := HS.upd (o' := row e enc v1 (xs ++ ys)) ⟨hg.os, hg.tape, hg.output, hg.size, fun k hk hF => hg.block k hk (fun he => hF he.symm)⟩ hok (fun k hk => by
    rcases hat with hat | hat
    · exact .inl (by show v.ownBlock = some k; rw [← hat]; exact hk)
    · right
      have : some W.heap.size = some k := hat.symm.trans hk
      injection this with this
      omega)
  obtain ⟨A', c', rfl, _⟩ := row_form hok
  exact event_step hw hrun (h A' c' w1 HS1)
theorem add_add0 (a : Addr) (i j : Nat) : (a.add i).add j = a.add (i + j) := by
  unfold Addr.add
  by_cases hi : i = 0
  · subst hi; simp
  · by_cases hj : j = 0
    · subst hj; simp [hi]
    · simp [hi, hj, Nat.add_assoc]
/-- An element of a row that is read beside things that change. -/
theorem Rd.el {α : Type} {K : Kd α} {F : Nat → Prop} {w W : World} {A : Option Addr} {n : Nat} {xs : List α} (h : Rd K F w A n xs) (hf : Fr F w W) (z : α) (i : Int) (h0 : 0 ≤ i) (h1 : i < n) :
    ∃ ad c, A = some ad ∧ c.length = K.sz ∧ K.K w (rdOf z xs i) c ∧ ∀ j u, c[j]? = some u → W.cell? ((ad.add (i.toNat * K.sz)).add j) = some u := by
  obtain ⟨ad, c, e, hl, hk, hc⟩ := Kd.C_get h.c z i h0 h1
  refine ⟨ad, c, e, hl, hk, fun j u hu => ?_⟩
  have h2 := hc j u hu
  rw [add_add0]
  exact cell_stay (hf.block _ (cell_lt h2) (by rw [add_block]; exact h.off (by omega) ad e)) h2
/-- A row of structs of the call's own, made and never grown: its cells side by side. -/
def srow {α : Type} (e : Nat) (enc : α → List Value) (g n : Nat) (xs : List α) : Ob where
  fp := fun k => k = g
  ok := fun w => xs.length = n ∧ w.heap[g]? = some (.cells (xs.flatMap enc).toArray e (0, 0))
  loc := fun h k => ⟨k.1, (h g rfl).trans k.2⟩
  lt := fun h k hk => by subst hk; exact (Array.getElem?_eq_some_iff.1 h.2).1
theorem flat_len {α : Type} (enc : α → List Value) (sz : Nat) (hs : ∀ x, (enc x).length = sz) : ∀ xs : List α, (xs.flatMap enc).length = xs.length * sz
  | [] => by simp
  | x :: xs => by rw [List.flatMap_cons, List.length_append, flat_len enc sz hs xs, hs, List.length_cons, Nat.add_mul, Nat.one_mul, Nat.add_comm]
theorem flat_rep {α : Type} (enc : α → List Value) (z0 : α) (sz : Nat) (hz : (enc z0).length = sz) : ∀ m : Nat, ((List.replicate m z0).flatMap enc).length = m * sz
  | 0 => by simp
  | n + 1 => by rw [List.replicate_succ, List.flatMap_cons, List.length_append, hz, flat_rep enc z0 sz hz n, Nat.add_mul]; omega
theorem flat_get {α : Type} (enc : α → List Value) (sz : Nat) (hs : ∀ x, (enc x).length = sz) (d : α) : ∀ (xs : List α) (i j : Nat), i < xs.length → j < sz → (xs.flatMap enc)[i * sz + j]? = (enc (xs.getD i d))[j]?
  | [], i, j, h, _ => absurd h (by simp)
  | x :: xs, 0, j, _, hj => by
    rw [List.flatMap_cons, Nat.zero_mul, Nat.zero_add, List.getElem?_append_left (by rw [hs]; exact hj)]
    rfl
  | x :: xs, i + 1, j, h, hj => by
    rw [List.flatMap_cons, List.getElem?_append_right (by rw [hs, Nat.add_mul]; omega), hs, show (i + 1) * sz + j - sz = i * sz + j by rw [Nat.add_mul]; omega]
    exact flat_get enc sz hs d xs i j (by simpa using h) hj
theorem flat_set {α : Type} (enc : α → List Value) (sz : Nat) (hs : ∀ x, (enc x).length = sz) (x : α) : ∀ (xs : List α) (i : Nat), i < xs.length → (xs.set i x).flatMap enc = (xs.flatMap enc).take (i * sz) ++ (enc x ++ (xs.flatMap enc).drop (i * sz + sz))
  | [], i, h => absurd h (by simp)
  | y :: xs, 0, _ => by
    rw [List.set_cons_zero, List.flatMap_cons, List.flatMap_cons, Nat.zero_mul, List.take_zero, List.nil_append, Nat.zero_add, List.drop_append_of_le_length (by rw [hs]; exact Nat.le_refl _), List.drop_of_length_le (by rw [hs]; exact Nat.le_refl _), List.nil_append]
  | y :: xs, i + 1, h => by
    have h1 : (i + 1) * sz = sz + i * sz := by rw [Nat.add_mul]; omega
    rw [List.set_cons_succ, List.flatMap_cons, List.flatMap_cons, flat_set enc sz hs x xs i (by simpa using h), h1,
      List.take_append, List.take_of_length_le (l := enc y) (by rw [hs]; omega), hs, show sz + i * sz - sz = i * sz by omega,
      List.drop_append, List.drop_of_length_le (l := enc y) (by rw [hs]; omega), hs, show sz + i * sz + sz - sz = i * sz + sz by omega, List.nil_append, List.append_assoc]
theorem set_mid {g t : Nat} : ∀ (vs : List Value) (o : Nat) (cs : Array Value) (W : World), o + vs.length ≤ cs.size → W.heap[g]? = some (.cells cs t (0, 0)) → (World.setCells W g o vs).heap[g]? = some (.cells (cs.toList.take o ++ (vs ++ cs.toList.drop (o + vs.length))).toArray t (0, 0)) ∧ Fr (fun k => k = g) W (World.setCells W g o vs)
  | [], o, cs, W, hl, h => by
    refine ⟨?_, Fr.refl _ _⟩
    rw [World.setCells, h]
    simp
  | v :: r, o, cs, W, hl, h => by
    have h1 : (W.setCell ⟨g, o, none⟩ v).heap[g]? = some (.cells (cs.setIfInBounds o v) t (0, 0)) := blk_put (g := g) (t := t) (cs := cs) h o v
    obtain ⟨h2, h3⟩ := set_mid (t := t) r (o + 1) _ _ (by simp at hl ⊢; omega) h1
    refine ⟨?_, (Fr.set (F := fun k => k = g) (p := ⟨g, o, none⟩) (Fr.refl _ W) (fun _ => rfl) v).trans h3⟩
    rw [World.setCells, h2]
    simp only [List.length_cons] at hl
    have hlt : o < cs.toList.length := by simp; omega
    have e1 : (cs.setIfInBounds o v).toList.take (o + 1) = cs.toList.take o ++ [v] := by
      rw [Array.toList_setIfInBounds, List.take_succ_eq_append_getElem (by simpa using hlt), List.take_set_of_le (Nat.le_refl _)]
      simp
    have e2 : (cs.setIfInBounds o v).toList.drop (o + 1 + r.length) = cs.toList.drop (o + (v :: r).length) := by
      rw [Array.toList_setIfInBounds, List.drop_set_of_lt (by omega), List.length_cons]
      congr 1
      omega
    rw [e1, e2]
    simp
theorem Sep.srowset {F : Nat → Prop} {w0 W : World} {l1 l2 : List Ob} {e g n : Nat} {α : Type} {enc : α → List Value} (sz : Nat) (hs : ∀ x, (enc x).length = sz) {xs : List α} (h : Sep F w0 (l1 ++ srow e enc g n xs :: l2) W) (i : Int) (x : α) (h0 : 0 ≤ i) (hi : i < (n : Int)) :
    Sep F w0 (l1 ++ srow e enc g n (xs.set i.toNat x) :: l2) (World.setCells W g (i.toNat * sz) (enc x)) := by
  obtain ⟨hn, hk⟩ := h.ok (srow e enc g n xs) (by simp)
  have hlt : i.toNat < xs.length := by omega
  have hle : i.toNat * sz + sz ≤ xs.length * sz := by
    have := Nat.mul_le_mul_right sz (show i.toNat + 1 ≤ xs.length by omega)
    rwa [Nat.add_mul, Nat.one_mul] at this
  obtain ⟨h1, h2⟩ := set_mid (g := g) (t := e) (enc x) (i.toNat * sz) (xs.flatMap enc).toArray W (by simp only [List.size_toArray]; rw [flat_len enc sz hs, hs]; exact hle) hk
  refine h.upd (o' := srow e enc g n (xs.set i.toNat x)) h2 ⟨by rw [List.length_set]; exact hn, ?_⟩ (fun k hk => .inl hk)
  rw [h1, flat_set enc sz hs x xs _ hlt, hs]
theorem srow_get {e g n : Nat} {α : Type} {enc : α → List Value} (sz : Nat) (hs : ∀ x, (enc x).length = sz) (d : α) {xs : List α} {W : World} (h : (srow e enc g n xs).ok W) (i : Int) (h0 : 0 ≤ i) (hi : i < (n : Int)) (j : Nat) (hj : j < sz) :
    W.cell? ⟨g, i.toNat * sz + j, none⟩ = (enc (rdOf d xs i))[j]? ∧ W.frozen? ⟨g, i.toNat * sz + j, none⟩ = false := by
  obtain ⟨hn, hk⟩ := h
  have hb : (blk g (xs.flatMap enc).toArray e).ok W := hk
  refine ⟨?_, blk_fz hb _⟩
  have hg := flat_get enc sz hs d xs i.toNat j (by omega) hj
  have hv : (enc (xs.getD i.toNat d))[j]? = some ((enc (xs.getD i.toNat d))[j]'(by rw [hs]; exact hj)) := List.getElem?_eq_getElem _
  show _ = (enc (xs.getD i.toNat d))[j]?
  rw [hv]
  exact blk_cellv hb _ (by rw [List.getElem?_toArray, hg, hv])
theorem srow_len {e g n : Nat} {α : Type} {enc : α → List Value} {xs : List α} {W : World} (h : (srow e enc g n xs).ok W) : n = xs.length := h.1.symm
section
variable {P : Program} {ops : Array Oper} {rest : List Oper} {o : Oper} {a : Act} {Q : Exit → Act → World → Prop}
/-- make([]T, n), T a struct. -/
theorem smake_event {W w0 : World} {F : Nat → Prop} {l : List Ob} (hgd : o.guard = none) {N : Tmp} (_hd : o.dst = some N) (t e : TypeId) (x y : Operand) (ho : o.op = .makeSlice t x y) (kx : IntKind) (z : Value) (sz bytes : Nat)
    (ht : P.underlying t = some (.slice e)) (hinfo : (P.info? e).map (fun i => (i.zero, i.size, i.bytes)) = some (some z, sz, bytes)) (hb0 : 0 < bytes) (hs0 : 0 < sz)
    {α : Type} (enc : α → List Value) (z0 : α) (hz : z.cells = (enc z0).toArray) (hzs : (enc z0).length = sz) (m : Nat) (hx : a.eval x = .int kx (m : Int)) (hy : a.eval y = .int kx (m : Int)) (hm : m * bytes ≤ 281474976710656) (HS : Sep F w0 l W)
    (h : ∀ g w1, Sep F w0 (l ++ [srow e enc g m (List.replicate m z0)]) w1 → wpList P ops Q rest (a.put o.dst (.slice (some ⟨g, 0, none⟩) m m)) w1) : wpList P ops Q (o :: rest) a W := by
  obtain ⟨i0, hi, hzz⟩ := Option.map_eq_some_iff.1 hinfo
  simp only [Prod.mk.injEq] at hzz
  obtain ⟨hz0, hz1, hz2⟩ := hzz
  have hm' : m ≤ 281474976710656 := Nat.le_trans (Nat.le_mul_of_pos_right _ hb0) hm
  have hmi : (i0.bytes : Int) * (m : Int) ≤ 281474976710656 := by
    rw [hz2, ← Int.natCast_mul, Nat.mul_comm]
    exact Int.ofNat_le.2 hm
  have hrun := run_make (P := P) W t e i0 z ht hi hz0 kx kx (m : Int) (m : Int) (by omega) (Int.le_refl _) hmi (by omega)
  simp only [Int.toNat_natCast] at hrun
  have hr : (execOp a.eval o).run P W = .ok (.value (.slice (some ⟨W.heap.size, 0, none⟩) m m)) (W.alloc (.cells (madeCells z.cells (m * i0.size)) e)) := by
    unfold execOp
    simp [ho, hx, hy, hrun]
  refine Kd.event_run hgd hr (h _ _ ?_)
  refine HS.new (Fr.of_below (below_alloc (Below.refl _ _) _)) (o := srow e enc W.heap.size m (List.replicate m z0)) ?_ (fun k hk => ?_)
  · have hc : madeCells z.cells (m * i0.size) = ((List.replicate m z0).flatMap enc).toArray := by
      rw [hz1, hz]
      apply Array.ext
      · rw [size_madeCells]
        rw [List.size_toArray, flat_rep enc z0 sz hzs]
      · intro j h1 h2
        rw [size_madeCells] at h1
        have hj : j % sz < sz := Nat.mod_lt _ hs0
        have e1 : (madeCells (enc z0).toArray (m * sz))[j] = (enc z0)[j % sz]'(by rw [hzs]; exact hj) := by
          simp [madeCells, hzs, hj]
        rw [e1]
        have hd : j / sz < m := Nat.div_lt_of_lt_mul (by rw [Nat.mul_comm]; exact h1)
        have hg : ∀ (n i : Nat), i < n → ∀ q : Nat, q < sz → ((List.replicate n z0).flatMap enc)[i * sz + q]? = (enc z0)[q]? := by
          intro n
          induction n with
          | zero => intro i hi; omega
          | succ n ih =>
            intro i hi q hq
            rw [List.replicate_succ, List.flatMap_cons]
            cases i with
            | zero => rw [Nat.zero_mul, Nat.zero_add, List.getElem?_append_left (by rw [hzs]; exact hq)]
            | succ i =>
              rw [List.getElem?_append_right (by rw [hzs, Nat.add_mul]; omega), hzs, show (i + 1) * sz + q - sz = i * sz + q by rw [Nat.add_mul]; omega]
              exact ih i (by omega) q hq
        have := hg m (j / sz) hd (j % sz) hj
        have h3 : j < ((List.replicate m z0).flatMap enc).length := by rw [flat_rep enc z0 sz hzs]; exact h1
        rw [Nat.mul_comm, Nat.div_add_mod, List.getElem?_eq_getElem (l := enc z0) (by rw [hzs]; exact hj), List.getElem?_eq_getElem h3] at this
        simpa using (Option.some.inj this).symm
    refine ⟨by simp, ?_⟩
    rw [hc]
    exact Go.heap_alloc_new _ _
  · have : k = W.heap.size := hk
    omega
end
/-! ### a row of structs of two slices, all of the call's own -/
def Ob.and (a b : Ob) : Ob where
  fp := fun k => a.fp k ∨ b.fp k
  ok := fun w => a.ok w ∧ b.ok w
  loc := fun h k => ⟨a.loc (fun j hj => h j (.inl hj)) k.1, b.loc (fun j hj => h j (.inr hj)) k.2⟩
  lt := fun h k hk => hk.elim (a.lt h.1 k) (b.lt h.2 k)
theorem Sep.merge {F : Nat → Prop} {w0 W : World} {a b : Ob} {l : List Ob} (h : Sep F w0 (a :: b :: l) W) : Sep F w0 (Ob.and a b :: l) W := by
  obtain ⟨p1, p2⟩ := List.pairwise_cons.1 h.apart
  obtain ⟨p3, p4⟩ := List.pairwise_cons.1 p2
  refine ⟨h.fr, fun o ho => ?_, List.pairwise_cons.2 ⟨fun x hx k hk hkx => ?_, p4⟩, fun o ho k hk hlt => ?_⟩
  · rcases List.mem_cons.1 ho with rfl | ho
    · exact ⟨h.ok a (by simp), h.ok b (by simp)⟩
    · exact h.ok o (by simp [ho])
  · exact hk.elim (fun q => p1 x (by simp [hx]) k q hkx) (fun q => p3 x hx k q hkx)
  · rcases List.mem_cons.1 ho with rfl | ho
    · exact hk.elim (fun q => h.inF a (by simp) k q hlt) (fun q => h.inF b (by simp) k q hlt)
    · exact h.inF o (by simp [ho]) k hk hlt
abbrev In2 : Type := (Option Addr × Nat) × (Option Addr × Nat)
abbrev Li2 : Type := List Int × List Int
def enc2 (p : In2 × Li2) : List Value := [.slice p.1.1.1 p.2.1.length p.1.1.2, .slice p.1.2.1 p.2.2.length p.1.2.2]
def obs2 (e1 e2 : Nat) (k1 k2 : IntKind) (p : In2 × Li2) : List Ob := [row e1 (Value.int k1) (.slice p.1.1.1 p.2.1.length p.1.1.2) p.2.1, row e2 (Value.int k2) (.slice p.1.2.1 p.2.2.length p.1.2.2) p.2.2]
def inl2 (e1 e2 : Nat) (k1 k2 : IntKind) (az : List In2) (xs : List Li2) : List Ob := (az.zip xs).flatMap (obs2 e1 e2 k1 k2)
/-- A row of structs of two slices: the row's block, and the slices' ones. -/
def orow (e e1 e2 : Nat) (k1 k2 : IntKind) (A : Option Addr) (n : Nat) (c : Nat × List In2) (xs : List Li2) : Ob where
  fp := fun k => (Value.slice A n c.1).ownBlock = some k ∨ fps (inl2 e1 e2 k1 k2 c.2 xs) k
  ok := fun w => c.2.length = xs.length ∧ xs.length = n ∧ w.ownsRow 0 e 2 (.slice A n c.1) n ((c.2.zip xs).flatMap enc2) ∧ (∀ o ∈ inl2 e1 e2 k1 k2 c.2 xs, o.ok w) ∧ ∀ k, (Value.slice A n c.1).ownBlock = some k → ¬ fps (inl2 e1 e2 k1 k2 c.2 xs) k
  loc := fun h k => ⟨k.1, k.2.1, own_loc (fun j hj => h j (.inl hj)) k.2.2.1, fun o ho => o.loc (fun j hj => h j (.inr ⟨o, ho, hj⟩)) (k.2.2.2.1 o ho), k.2.2.2.2⟩
  lt := fun h k hk => hk.elim (fun q => own_lt h.2.2.1 k q) (fun ⟨o, ho, q⟩ => o.lt (h.2.2.2.1 o ho) k q)
theorem orow_len {e e1 e2 n : Nat} {k1 k2 : IntKind} {A : Option Addr} {c : Nat × List In2} {xs : List Li2} {w : World} (h : (orow e e1 e2 k1 k2 A n c xs).ok w) : xs.length = n := h.2.1
theorem Sep.nilorow {F : Nat → Prop} {w0 W : World} {l : List Ob} (h : Sep F w0 l W) (e e1 e2 : Nat) (k1 k2 : IntKind) : Sep F w0 (orow e e1 e2 k1 k2 none 0 (0, []) [] :: l) W := by
  have hn : ∀ k, ¬ (orow e e1 e2 k1 k2 none 0 (0, []) []).fp k := fun k hk => by
    rcases hk with hk | ⟨o, ho, _⟩
    · simp [Value.ownBlock] at hk
    · cases ho
  refine ⟨h.fr, fun o ho => ?_, List.pairwise_cons.2 ⟨fun a _ k hk => absurd hk (hn k), h.apart⟩, fun o ho k hk hlt => ?_⟩
  · rcases List.mem_cons.1 ho with rfl | ho
    · exact ⟨rfl, rfl, own_nil _ _ _ _, (fun o ho => by cases ho), (fun k hk => by cases hk)⟩
    · exact h.ok o ho
  · rcases List.mem_cons.1 ho with rfl | ho
    · exact absurd hk (hn k)
    · exact h.inF o ho k hk hlt
theorem orow_at {e e1 e2 n : Nat} {k1 k2 : IntKind} {A : Option Addr} {c : Nat × List In2} {xs : List Li2} {w : World} (h : (orow e e1 e2 k1 k2 A n c xs).ok w) (h0 : 0 < n) : ∃ g, A = some ⟨g, 0, none⟩ := by
  rcases h.2.2.1.2 with ⟨_, h1⟩ | ⟨g, cap, cur, hv, _⟩
  · omega
  · injection hv with h1; exact ⟨g, h1⟩
theorem flat2 : ∀ (az : List In2) (xs : List Li2) (i : Nat), az.length = xs.length → i < xs.length → ((az.zip xs).flatMap enc2)[i * 2]? = some (.slice (az.getD i ((none, 0), (none, 0))).1.1 (xs.getD i ([], [])).1.length (az.getD i ((none, 0), (none, 0))).1.2) ∧ ((az.zip xs).flatMap enc2)[i * 2 + 1]? = some (.slice (az.getD i ((none, 0), (none, 0))).2.1 (xs.getD i ([], [])).2.length (az.getD i ((none, 0), (none, 0))).2.2)
  | [], x :: xs, i, h, _ => by simp at h
  | a :: az, [], i, h, _ => by simp at h
  | [], [], i, _, h => by simp at h
  | a :: az, x :: xs, 0, _, _ => by simp [enc2]
  | a :: az, x :: xs, i + 1, h, hi => by
    have := flat2 az xs i (by simpa using h) (by simpa using hi)
    rw [show (i + 1) * 2 = i * 2 + 1 + 1 by omega, show i * 2 + 1 + 1 + 1 = i * 2 + 1 + 1 + 1 from rfl]
    simpa [enc2] using this
theorem orow_get {e e1 e2 n g : Nat} {k1 k2 : IntKind} {c : Nat × List In2} {xs : List Li2} {w : World} (h : (orow e e1 e2 k1 k2 (some ⟨g, 0, none⟩) n c xs).ok w) (q : Int) (h0 : 0 ≤ q) (h1 : q < (n : Int)) :
    w.cell? ⟨g, q.toNat * 2, none⟩ = some (.slice (rdOf ((none, 0), (none, 0)) c.2 q).1.1 (rdOf ([], []) xs q).1.length (rdOf ((none, 0), (none, 0)) c.2 q).1.2) ∧
    w.cell? ⟨g, q.toNat * 2 + 1, none⟩ = some (.slice (rdOf ((none, 0), (none, 0)) c.2 q).2.1 (rdOf ([], []) xs q).2.length (rdOf ((none, 0), (none, 0)) c.2 q).2.2) := by
  obtain ⟨l1, l2, l3, _⟩ := h
  obtain ⟨f1, f2⟩ := flat2 c.2 xs q.toNat l1 (by omega)
  have hc := World.ownsRow.cells l3 (g := g) rfl
  have c1 := hc _ _ f1
  have c2 := hc _ _ f2
  rw [add_plain] at c1 c2
  exact ⟨c1, c2⟩
/-- A cell of a row, wherever the row lies. -/
def ocell (w : World) (A : Option Addr) (j : Nat) (v : Value) : Prop := ∃ ad, A = some ad ∧ w.cell? (ad.add j) = some v
theorem ocell_of1 {e e1 e2 n : Nat} {k1 k2 : IntKind} {A : Option Addr} {c : Nat × List In2} {xs : List Li2} {w : World} (h : (orow e e1 e2 k1 k2 A n c xs).ok w) (q : Int) (h0 : 0 ≤ q) (h1 : q < (n : Int)) :
    ocell w A (q.toNat * 2) (.slice (rdOf ((none, 0), (none, 0)) c.2 q).1.1 (rdOf ([], []) xs q).1.length (rdOf ((none, 0), (none, 0)) c.2 q).1.2) := by
  obtain ⟨g, rfl⟩ := orow_at h (by omega)
  exact ⟨_, rfl, by rw [add_plain]; exact (orow_get h q h0 h1).1⟩
theorem ocell_of2 {e e1 e2 n : Nat} {k1 k2 : IntKind} {A : Option Addr} {c : Nat × List In2} {xs : List Li2} {w : World} (h : (orow e e1 e2 k1 k2 A n c xs).ok w) (q : Int) (h0 : 0 ≤ q) (h1 : q < (n : Int)) :
    ocell w A (q.toNat * 2 + 1) (.slice (rdOf ((none, 0), (none, 0)) c.2 q).2.1 (rdOf ([], []) xs q).2.length (rdOf ((none, 0), (none, 0)) c.2 q).2.2) := by
  obtain ⟨g, rfl⟩ := orow_at h (by omega)
  exact ⟨_, rfl, by rw [add_plain]; exact (orow_get h q h0 h1).2⟩
def ocells (w : World) (A : Option Addr) (n : Nat) (c : Nat × List In2) (xs : List Li2) : Prop := ∀ q : Int, 0 ≤ q → q < (n : Int) →
  ocell w A (q.toNat * 2) (.slice (rdOf ((none, 0), (none, 0)) c.2 q).1.1 (rdOf ([], []) xs q).1.length (rdOf ((none, 0), (none, 0)) c.2 q).1.2) ∧ ocell w A (q.toNat * 2 + 1) (.slice (rdOf ((none, 0), (none, 0)) c.2 q).2.1 (rdOf ([], []) xs q).2.length (rdOf ((none, 0), (none, 0)) c.2 q).2.2)
theorem ocells_of {e e1 e2 n : Nat} {k1 k2 : IntKind} {A : Option Addr} {c : Nat × List In2} {xs : List Li2} {w : World} (h : (orow e e1 e2 k1 k2 A n c xs).ok w) : ocells w A n c xs := fun q h0 h1 => ⟨ocell_of1 h q h0 h1, ocell_of2 h q h0 h1⟩
theorem inl2_mem {e1 e2 : Nat} {k1 k2 : IntKind} {az : List In2} {xs : List Li2} (hl : az.length = xs.length) (i : Nat) (hi : i < xs.length) :
    row e1 (Value.int k1) (.slice (az.getD i ((none, 0), (none, 0))).1.1 (xs.getD i ([], [])).1.length (az.getD i ((none, 0), (none, 0))).1.2) (xs.getD i ([], [])).1 ∈ inl2 e1 e2 k1 k2 az xs ∧
    row e2 (Value.int k2) (.slice (az.getD i ((none, 0), (none, 0))).2.1 (xs.getD i ([], [])).2.length (az.getD i ((none, 0), (none, 0))).2.2) (xs.getD i ([], [])).2 ∈ inl2 e1 e2 k1 k2 az xs := by
  have hm : (az.getD i ((none, 0), (none, 0)), xs.getD i ([], [])) ∈ az.zip xs := by
    have h1 : i < az.length := by omega
    have e : (az.zip xs)[i]'(by simp [List.length_zip]; omega) = (az[i], xs[i]) := List.getElem_zip
    rw [List.getD_eq_getElem?_getD, List.getD_eq_getElem?_getD, List.getElem?_eq_getElem h1, List.getElem?_eq_getElem hi]
    simp only [Option.getD_some]
    rw [← e]
    exact List.getElem_mem _
  exact ⟨List.mem_flatMap.2 ⟨_, hm, by simp [obs2]⟩, List.mem_flatMap.2 ⟨_, hm, by simp [obs2]⟩⟩
theorem Rd.inn1 {F : Nat → Prop} {w W : World} {l rest : List Ob} {A : Option Addr} {n e e1 e2 : Nat} {k1 k2 : IntKind} {c : Nat × List In2} {xs : List Li2} (hS : Sep F w (l ++ rest) W) (i : Nat) (hi : rest[i]? = some (orow e e1 e2 k1 k2 A n c xs)) (q : Int) (h0 : 0 ≤ q) (h1 : q < (n : Int)) :
    Rd (Kd.int k1) (fps l) W (rdOf ((none, 0), (none, 0)) c.2 q).1.1 (rdOf ([], []) xs q).1.length (rdOf ([], []) xs q).1 := by
  have hm := List.mem_of_getElem? hi
  have ho := hS.ok _ (List.mem_append_right _ hm)
  have hin := (inl2_mem (e1 := e1) (e2 := e2) (k1 := k1) (k2 := k2) ho.1 q.toNat (by have := ho.2.1; omega)).1
  refine ⟨row_Ci (ho.2.2.2.1 _ hin), fun _ a ha => hS.offO hm (Or.inr ⟨_, hin, ?_⟩)⟩
  show (Value.slice (rdOf ((none, 0), (none, 0)) c.2 q).1.1 _ _).ownBlock = some a.block
  rw [ha]; rfl
theorem Rd.inn2 {F : Nat → Prop} {w W : World} {l rest : List Ob} {A : Option Addr} {n e e1 e2 : Nat} {k1 k2 : IntKind} {c : Nat × List In2} {xs : List Li2} (hS : Sep F w (l ++ rest) W) (i : Nat) (hi : rest[i]? = some (orow e e1 e2 k1 k2 A n c xs)) (q : Int) (h0 : 0 ≤ q) (h1 : q < (n : Int)) :
    Rd (Kd.int k2) (fps l) W (rdOf ((none, 0), (none, 0)) c.2 q).2.1 (rdOf ([], []) xs q).2.length (rdOf ([], []) xs q).2 := by
  have hm := List.mem_of_getElem? hi
  have ho := hS.ok _ (List.mem_append_right _ hm)
  have hin := (inl2_mem (e1 := e1) (e2 := e2) (k1 := k1) (k2 := k2) ho.1 q.toNat (by have := ho.2.1; omega)).2
  refine ⟨row_Ci (ho.2.2.2.1 _ hin), fun _ a ha => hS.offO hm (Or.inr ⟨_, hin, ?_⟩)⟩
  show (Value.slice (rdOf ((none, 0), (none, 0)) c.2 q).2.1 _ _).ownBlock = some a.block
  rw [ha]; rfl
section
variable {P : Program} {ops : Array Oper} {rest : List Oper} {o : Oper} {a : Act} {Q : Exit → Act → World → Prop}
/-- append(s, x), s a row of structs of two slices, x's slices of the call's own. -/
theorem oappend_event {W w0 : World} {F : Nat → Prop} {l : List Ob} (hgd : o.guard = none) (s x : Operand) (t e e1 e2 : TypeId) (k1 k2 : IntKind) (z : Value) (bytes : Nat)
    (ho : o.op = .call { callee := .builtin .append, args := #[s, x], argTypes := #[t, t] })
    (ht : P.underlying t = some (.slice e)) (hinfo : (P.info? e).map (fun i => (i.zero, i.size, i.bytes)) = some (some z, 2, bytes)) (hz : z.cells.size = 2) (hb0 : 0 < bytes)
    (A : Option Addr) (n : Nat) (c : Nat × List In2) (xs : List Li2) (AP AD : Option Addr) (nP nD cP cD : Nat) (xP xD : List Int) (ad : Addr) (cx : Nat) (hs : a.eval s = .slice A n c.1) (hx : a.eval x = .slice (some ad) 1 cx)
    (hy0 : W.cell? (ad.add 0) = some (.slice AP nP cP)) (hy1 : W.cell? (ad.add 1) = some (.slice AD nD cD))
    (HS : Sep F w0 (orow e e1 e2 k1 k2 A n c xs :: row e1 (Value.int k1) (.slice AP nP cP) xP :: row e2 (Value.int k2) (.slice AD nD cD) xD :: l) W) (hl : (xs.length + 1) * bytes ≤ 140737488355328) {zs : List Li2} (hzs : Aside0 (some (xs ++ [(xP, xD)]) = some zs))
    (h : ∀ A' c' w1, Sep F w0 (orow e e1 e2 k1 k2 A' zs.length (c', c.2 ++ [((AP, cP), (AD, cD))]) zs :: l) w1 → wpList P ops Q rest (a.put o.dst (.slice A' zs.length c')) w1) :
    wpList P ops Q (o :: rest) a W := by
  obtain rfl := Option.some.inj hzs.out
  obtain ⟨i0, hi, hzz⟩ := Option.map_eq_some_iff.1 hinfo
  simp only [Prod.mk.injEq] at hzz
  obtain ⟨hz0, hz1, hz2⟩ := hzz
  have HO := HS.ok (orow e e1 e2 k1 k2 A n c xs) (by simp)
  have HP := HS.ok (row e1 (Value.int k1) (.slice AP nP cP) xP) (by simp)
  have HD := HS.ok (row e2 (Value.int k2) (.slice AD nD cD) xD) (by simp)
  obtain rfl := row_len HP
  obtain rfl := row_len HD
  obtain ⟨o1, o2, o3, o4, o5⟩ := HO
  subst o2
  have hlen : xs.length + 1 ≤ 140737488355328 := Nat.le_trans (Nat.le_mul_of_pos_right _ hb0) hl
  obtain ⟨p1, p2⟩ := List.pairwise_cons.1 HS.apart
  refine wpList_append_own_at W hgd s x t ho 0 e i0 z 2 bytes ht hi hz0 hz1 hz2 hz (by omega) (.slice A xs.length c.1) xs.length _ hs o3 ad 1 cx (enc2 (((AP, cP), (AD, cD)), (xP, xD))) hx rfl (fun j u hu => ?_)
    (fun u hu => ?_) (by simp only [maxLen]; omega) hl (Nat.zero_le _) ?_
  · match j, hu with
    | 0, hu => rw [hy0]; exact hu
    | 1, hu => rw [hy1]; exact hu
    | j + 2, hu => simp [enc2] at hu
  · simp only [enc2, List.mem_cons, List.not_mem_nil, or_false] at hu
    rcases hu with rfl | rfl <;> rfl
  intro v1 w1 hown hg _ hat
  have hv1 : ∃ A' c', v1 = .slice A' (xs.length + 1) c' := by
    rcases hown.2 with ⟨_, h0⟩ | ⟨g, cap, cur, hv, _⟩
    · omega
    · exact ⟨_, _, hv⟩
  obtain ⟨A', c', rfl⟩ := hv1
  have hin : inl2 e1 e2 k1 k2 (c.2 ++ [((AP, cP), (AD, cD))]) (xs ++ [(xP, xD)]) = inl2 e1 e2 k1 k2 c.2 xs ++ [row e1 (Value.int k1) (.slice AP xP.length cP) xP, row e2 (Value.int k2) (.slice AD xD.length cD) xD] := by
    unfold inl2
    rw [List.zip_append o1, List.flatMap_append]
    rfl
  have hfl : ((c.2 ++ [((AP, cP), (AD, cD))]).zip (xs ++ [(xP, xD)])).flatMap enc2 = (c.2.zip xs).flatMap enc2 ++ enc2 (((AP, cP), (AD, cD)), (xP, xD)) := by
    rw [List.zip_append o1, List.flatMap_append]
    simp
  have hold : ∀ y ∈ inl2 e1 e2 k1 k2 (c.2 ++ [((AP, cP), (AD, cD))]) (xs ++ [(xP, xD)]), y.ok W ∧ ∀ k, y.fp k → ¬ (Value.slice A xs.length c.1).ownBlock = some k := fun y hy => by
    rw [hin] at hy
    rcases List.mem_append.1 hy with hy | hy
    · exact ⟨o4 y hy, fun k hk q => o5 k q ⟨y, hy, hk⟩⟩
    · have hy' : y = row e1 (Value.int k1) (.slice AP xP.length cP) xP ∨ y = row e2 (Value.int k2) (.slice AD xD.length cD) xD := by simpa using hy
      rcases hy' with rfl | rfl
      · exact ⟨HP, fun k hk q => p1 _ (by simp) k (Or.inl q) hk⟩
      · exact ⟨HD, fun k hk q => p1 _ (by simp) k (Or.inl q) hk⟩
  have hlt : ∀ y ∈ inl2 e1 e2 k1 k2 (c.2 ++ [((AP, cP), (AD, cD))]) (xs ++ [(xP, xD)]), ∀ k, y.fp k → k < W.heap.size := fun y hy k hk => y.lt (hold y hy).1 k hk
  have HM : Sep F w0 ([] ++ Ob.and (orow e e1 e2 k1 k2 A xs.length c xs) (Ob.and (row e1 (Value.int k1) (.slice AP xP.length cP) xP) (row e2 (Value.int k2) (.slice AD xD.length cD) xD)) :: l) W := by
    have h2 : Sep F w0 (Ob.and (row e1 (Value.int k1) (.slice AP xP.length cP) xP) (row e2 (Value.int k2) (.slice AD xD.length cD) xD) :: orow e e1 e2 k1 k2 A xs.length c xs :: l) W :=
      (HS.perm ((List.Perm.swap _ _ _).trans ((List.Perm.swap _ _ _).cons _))).merge
    exact (h2.perm (.swap _ _ _)).merge
  have hS1 := HM.upd (W' := w1) (o' := orow e e1 e2 k1 k2 A' (xs ++ [(xP, xD)]).length (c', c.2 ++ [((AP, cP), (AD, cD))]) (xs ++ [(xP, xD)])) ⟨hg.os, hg.tape, hg.output, hg.size, fun k hk hF => hg.block k hk (fun he => hF (Or.inl (Or.inl he.symm)))⟩
    ⟨by simp [o1], rfl, by rw [List.length_append]; rw [hfl]; exact hown, fun y hy => y.loc (w := W) (fun k hk => hg.block k (hlt y hy k hk) (fun he => (hold y hy).2 k hk he.symm)) (hold y hy).1, fun k hk ⟨y, hy, hky⟩ => by
      rw [List.length_append] at hk
      rcases hat with hat | hat
      · exact (hold y hy).2 k hky (by rw [← hat]; exact hk)
      · have h1 := hlt y hy k hky
        have h2 : some W.heap.size = some k := hat.symm.trans hk
        injection h2 with h2
        omega⟩
    (fun k hk => by
      rcases hk with hk | ⟨y, hy, hky⟩
      · rw [List.length_append] at hk
        rcases hat with hat | hat
        · exact Or.inl (Or.inl (Or.inl (by rw [← hat]; exact hk)))
        · right
          have h2 : some W.heap.size = some k := hat.symm.trans hk
          injection h2 with h2
          omega
      · rw [hin] at hy
        rcases List.mem_append.1 hy with hy | hy
        · exact Or.inl (Or.inl (Or.inr ⟨y, hy, hky⟩))
        · have hy' : y = row e1 (Value.int k1) (.slice AP xP.length cP) xP ∨ y = row e2 (Value.int k2) (.slice AD xD.length cD) xD := by simpa using hy
          rcases hy' with rfl | rfl
          · exact Or.inl (Or.inr (Or.inl hky))
          · exact Or.inl (Or.inr (Or.inr hky)))
  have := h A' c' w1 hS1
  rw [List.length_append] at this
  exact this
end
end Go.Proofs.YtobeonkddamnoaaDoor.Q
