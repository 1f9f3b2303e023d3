/- Plain functions that may have no answer: guards, loops, and how what they answer is shown. No program here. -/
import Derived.Test.YtlfclppjhkeljaaGreatPwtVeA
namespace Go.Vd
inductive Er
 | nil
 | no (n : Int)
 | at (k i : Int) (e : Er)
 deriving DecidableEq, Inhabited
def Er.fi : Er → Int
 | .at _ i _ => i
 | _ => 0
def G {α : Type} (p : Prop) [Decidable p] (x : Option α) : Option α := if p then x else none
theorem ZfT {α : Type} {r : α} (h : (none : Option α) = some r) : False := by cases h
theorem Zb {α : Type} {p : Prop} [Decidable p] {x : Option α} {r : α} (h : G p x = some r) : p ∧ x = some r := by
 unfold G at h
 split at h
 ·exact ⟨by assumption, h⟩
 ·cases h
theorem bind_some {α β : Type} {x : Option α} {f : α → Option β} {r : β} (h : x.bind f = some r) : ∃ y, x = some y ∧ f y = some r := by
 cases x with
 | none => cases h
 | some y => exact ⟨y, rfl, h⟩
theorem map_some {α β : Type} {x : Option α} {f : α → β} {r : β} (h : x.map f = some r) : ∃ y, x = some y ∧ f y = r := by
 cases x with
 | none => cases h
 | some y => exact ⟨y, rfl, Option.some.inj h⟩
theorem Zf {α : Type} {c : Prop} [Decidable c] {x y z : α} (h : c) (hr : (if c then x else y) = z) : x = z := by rwa [if_pos h] at hr
theorem Zj {α : Type} {c : Prop} [Decidable c] {x y z : α} (h : ¬ c) (hr : (if c then x else y) = z) : y = z := by rwa [if_neg h] at hr
theorem ZL {α : Type} {b : Bool} {x y z : α} (h : b = false) (hr : (if b = true then x else y) = z) : y = z := by
 subst h; rwa [if_neg (by decide)] at hr
theorem elim_inl {α β : Type} {f : β → Option α} {v r : α} (h : Sum.elim some f (Sum.inl v : α ⊕ β) = some r) : v = r := Option.some.inj h
theorem elim_inr {α β : Type} {f : β → Option α} {v : β} {r : α} (h : Sum.elim some f (Sum.inr v : α ⊕ β) = some r) : f v = some r := h
theorem ZgE {α β γ : Type} {f : α → Option γ} {g : β → Option γ} {v : α} {r : γ} (h : Sum.elim f g (Sum.inl v) = some r) : f v = some r := h
theorem ZgF {α β γ : Type} {f : α → Option γ} {g : β → Option γ} {v : β} {r : γ} (h : Sum.elim f g (Sum.inr v) = some r) : g v = some r := h
theorem Zhi {α β : Type} {f : α → Prop} {g : β → Prop} {v : α} (h : f v) : Sum.elim f g (Sum.inl v) := h
theorem Zhc {α β : Type} {f : α → Prop} {g : β → Prop} {v : β} (h : g v) : Sum.elim f g (Sum.inr v) := h
def ZD {σ β : Type} (f : σ → Option (σ ⊕ β)) : Nat → σ → Option β
 | 0, _ => none
 | n + 1, s => (f s).bind (Sum.elim (ZD f n) some)
theorem Zgw {σ β : Type} {f : σ → Option (σ ⊕ β)} {b : β} : ∀ {n m : Nat} {s : σ}, ZD f n s = some b → n ≤ m → ZD f m s = some b := by
 intro n
 induction n with
 | zero => intro m s h; cases h
 | succ n ih =>
  intro m s h hle
  obtain ⟨m, rfl⟩ : ∃ k, m = k + 1 := ⟨m - 1, by omega⟩
  simp only [ZD] at h ⊢
  obtain ⟨z, h1, h2⟩ := bind_some h
  rw [h1]
  cases z with
  | inl s' => exact ih h2 (by omega)
  | inr b' => exact h2
open Classical in
noncomputable def Zz {σ β : Type} (f : σ → Option (σ ⊕ β)) (s : σ) : Option β :=
 if h : ∃ n b, ZD f n s = some b then some (Classical.choose (Classical.choose_spec h)) else none
theorem Zr {σ β : Type} {f : σ → Option (σ ⊕ β)} {s : σ} {b : β} : Zz f s = some b ↔ ∃ n, ZD f n s = some b := by
 unfold Zz
 constructor
 ·intro h
  split at h
  ·rename_i hx
   cases h
   exact ⟨_, Classical.choose_spec (Classical.choose_spec hx)⟩
  ·cases h
 ·rintro ⟨n, hn⟩
  have hx : ∃ n b, ZD f n s = some b := ⟨n, b, hn⟩
  rw [dif_pos hx]
  have h2 := Classical.choose_spec (Classical.choose_spec hx)
  have h3 := Zgw h2 (Nat.le_max_left _ n)
  have h4 := Zgw hn (Nat.le_max_right (Classical.choose hx) n)
  rw [h3] at h4
  exact h4
theorem Zd0 {σ β : Type} (f : σ → Option (σ ⊕ β)) (s : σ) : Zz f s = (f s).bind (Sum.elim (Zz f) some) := by
 cases hf : f s with
 | none =>
  rw [Option.bind_none]
  cases hl : Zz f s with
  | none => rfl
  | some b =>
   obtain ⟨n, hn⟩ := Zr.1 hl
   cases n with
   | zero => cases hn
   | succ n => simp only [ZD, hf, Option.bind_none] at hn; cases hn
 | some z =>
  rw [Option.bind_some]
  cases z with
  | inr b => rw [Sum.elim_inr]; exact Zr.2 ⟨1, by simp [ZD, hf]⟩
  | inl s' =>
   rw [Sum.elim_inl]
   cases hl : Zz f s' with
   | some b =>
    obtain ⟨n, hn⟩ := Zr.1 hl
    exact Zr.2 ⟨n + 1, by simp [ZD, hf, hn]⟩
   | none =>
    cases hl2 : Zz f s with
    | none => rfl
    | some b =>
     obtain ⟨n, hn⟩ := Zr.1 hl2
     cases n with
     | zero => cases hn
     | succ n =>
      simp only [ZD, hf, Option.bind_some, Sum.elim_inl] at hn
      rw [Zr.2 ⟨n, hn⟩] at hl; cases hl
theorem Zt {σ β : Type} {f : σ → Option (σ ⊕ β)} {n : Nat} {s : σ} {b : β} (h : ZD f n s = some b) : ∃ m z, n = m + 1 ∧ f s = some z ∧ Sum.elim (ZD f m) some z = some b := by
 cases n with
 | zero => cases h
 | succ n =>
  simp only [ZD] at h
  obtain ⟨z, h1, h2⟩ := bind_some h
  exact ⟨n, z, rfl, h1, h2⟩
def T {α : Type} (x : Option α) (Q : α → Prop) : Prop := ∃ a, x = some a ∧ Q a
@[simp] theorem T_none {α : Type} {Q : α → Prop} : T none Q ↔ False := ⟨fun ⟨_, h, _⟩ => (by cases h), False.elim⟩
@[simp] theorem Zc {α : Type} {a : α} {Q : α → Prop} : T (some a) Q ↔ Q a := ⟨fun ⟨_, h, k⟩ => by cases h; exact k, fun h => ⟨a, rfl, h⟩⟩
@[simp] theorem Zj0 {α β : Type} {x : Option α} {f : α → Option β} {Q : β → Prop} : T (x.bind f) Q ↔ T x fun a => T (f a) Q := by
 cases x <;> simp
@[simp] theorem Zdp {α β : Type} {x : Option α} {f : α → β} {Q : β → Prop} : T (x.map f) Q ↔ T x fun a => Q (f a) := by
 cases x <;> simp
@[simp] theorem Zq {α : Type} {c : Prop} [Decidable c] {x y : Option α} {Q : α → Prop} : T (if c then x else y) Q ↔ (c → T x Q) ∧ (¬ c → T y Q) := by
 split <;> simp_all
@[simp] theorem T_G {α : Type} {p : Prop} [Decidable p] {x : Option α} {Q : α → Prop} : T (G p x) Q ↔ p ∧ T x Q := by
 unfold G; split <;> simp_all
theorem ZjM {α : Type} {x : Option α} {Q Q' : α → Prop} (h : T x Q) (k : ∀ a, Q a → Q' a) : T x Q' := by
 obtain ⟨a, h1, h2⟩ := h; exact ⟨a, h1, k a h2⟩
theorem Ze2 {α : Type} {x : Option α} {a : α} : T x (fun b => b = a) ↔ x = some a :=
 ⟨fun ⟨_, h, k⟩ => (by rw [h, k]), fun h => ⟨a, h, rfl⟩⟩
theorem ZH {σ β : Type} {f : σ → Option (σ ⊕ β)} {Q : β → Prop} (I : σ → Prop) (m : σ → Nat)
  (step : ∀ s, I s → T (f s) (Sum.elim (fun s' => I s' ∧ m s' < m s) Q)) {s : σ} (h : I s) : T (Zz f s) Q := by
 generalize hk : m s = k
 induction k using Nat.strongRecOn generalizing s with
 | _ k ih =>
  obtain ⟨z, h1, h2⟩ := step s h
  rw [Zd0, h1, Option.bind_some]
  cases z with
  | inl s' => exact ih (m s') (by have := h2.2; omega) h2.1 rfl
  | inr b => exact ⟨b, rfl, h2⟩
theorem Zo {α β : Type} {x : Option α} {f : α → Option β} {Q : β → Prop} (R : α → Prop) (h : T x R) (k : ∀ a, R a → T (f a) Q) : T (x.bind f) Q := by
 obtain ⟨a, h1, h2⟩ := h
 rw [h1]; exact k a h2
theorem Za0 {α β : Type} {x : Option (β ⊕ α)} {f : α → Option β} {Q : β → Prop} (R : α → Prop) (h : T x (Sum.elim Q R)) (k : ∀ a, R a → T (f a) Q) : T (x.bind (Sum.elim some f)) Q := by
 obtain ⟨a, h1, h2⟩ := h
 rw [h1]
 cases a with
 | inl b => exact ⟨b, rfl, h2⟩
 | inr a => exact k a h2
end Go.Vd
