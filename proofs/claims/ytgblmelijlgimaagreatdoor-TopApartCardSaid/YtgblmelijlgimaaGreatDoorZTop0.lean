/- Short words for the proof of TopApart. -/
import Derived.Test.YtgblmelijlgimaaGreatDoorChecked
import Derived.Below
import Derived.Lib.Hide
import Derived.Calls
namespace Go
open RowKit
inductive ZU|m
def U:=ZU.m
instance:CoeFun ZU fun _=>Int->Value:=⟨fun _=>.int .i64⟩
inductive Zaa|m
def aa:=Zaa.m
instance:CoeFun Zaa fun _=>Int->Value:=⟨fun _=>.int .u64⟩
inductive Zab|m
def ab:=Zab.m
instance:CoeFun Zab fun _=>Int->Value:=⟨fun _=>.int .u8⟩
inductive Zae|m
def ae:=Zae.m
instance:CoeFun Zae fun _=>Value->Ending:=⟨fun _=>.returned⟩
inductive Zaf|m
def af:=Zaf.m
instance:CoeFun Zaf fun _=>Option Addr->Value:=⟨fun _=>.pointer⟩
inductive Zai|m
def ai:=Zai.m
instance:CoeFun Zai fun _=>Option Addr->Nat->Nat->Value:=⟨fun _=>.slice⟩
inductive Zaj|m
def aj:=Zaj.m
instance:CoeFun Zaj fun _=>Nat->Nat->Option Nat->Addr:=⟨fun _=>.mk⟩
inductive Zak|m
def ak:=Zak.m
instance:CoeFun Zak fun _=>FuncId->Array Value->World->(Ending->World->Prop)->Prop:=⟨fun _=>Calls Go.Proofs.Tryz.prog⟩
instance:Coe (Option Nat->Addr) Addr:=⟨fun f=>f none⟩
instance:Coe (Nat->Option Nat->Addr) Addr:=⟨fun f=>f 0 none⟩
theorem al {α:Type} (a:α):∃b,a=b:=⟨_,rfl⟩
theorem ao.{u_1} : ∀ {α : Type u_1} {l : List α} {i : Nat} {a : α}, l.getD i a = l[i]?.getD a := @List.getD_eq_getElem?_getD
theorem aq.{u_1} : ∀ {α : Type u_1} {l : List α} {i : Nat} (h : i < l.length), l[i]? = some l[i] := @List.getElem?_eq_getElem
theorem au.{u_1} : ∀ {α : Type u_1} {i : Nat} {a : α} {l : List α}, l[i]? = some a ↔ ∃ h : i < l.length, l[i] = a := @List.getElem?_eq_some_iff
theorem av : ∀ (n : Nat), n ≤ n := @Nat.le_refl
theorem aw : ∀ {p : Prop} [Decidable p], p → decide p = true := @decide_eq_true
theorem az : ∀ {p : Prop} [Decidable p], ¬p → decide p = false := @decide_eq_false
theorem aA.{u_1} : ∀ {α : Type u_1} [BEq α] [LawfulBEq α] {a b : α}, (a == b) = false ↔ a ≠ b := @beq_eq_false_iff_ne
theorem aB : ∀ {n m k : Nat}, n < m → m ≤ k → n < k := @Nat.lt_of_lt_of_le
theorem aC.{u_1} : ∀ {α : Type u_1} {a : α} {xs' : List α}, (a :: xs').length = xs'.length + 1 := @List.length_cons
theorem aD.{u_1} : ∀ {α : Type u_1} {i : Nat} {b : α} {xs : Array α}, xs[i]? = some b ↔ ∃ h : i < xs.size, xs[i] = b := @Array.getElem?_eq_some_iff
theorem aE : ∀ {n m k : Nat}, n ≤ m → m ≤ k → n ≤ k := @Nat.le_trans
theorem aF.{u_1} : ∀ {α : Type u_1} {l : List α} {n : Nat} (h : n < l.length), l[n] ∈ l := @List.getElem_mem
theorem aG : ∀ (n : Nat), Int.toNat (n : Int) = n := @Int.toNat_natCast
theorem aH.{u_1} : ∀ {α : Type u_1} {l : List α} {i : Nat} {a : α}, l[i]? = some a → a ∈ l := @List.mem_of_getElem?
theorem aI.{u_1} : ∀ {α : Type u_1} {xs' : List α} {i : Nat} {a : α}, (xs'.set i a).length = xs'.length := @List.length_set
theorem aJ.{u_1} : ∀ {α : Type u_1} {xs' bs : List α}, (xs' ++ bs).length = xs'.length + bs.length := @List.length_append
theorem aK.{u_1} : ∀ {α : Type u_1} {a : α}, Array.replicate 0 a = #[] := @Array.replicate_zero
theorem aL.{u_1} : ∀ {n : Nat} {α : Type u_1} {a : α}, Array.replicate (n + 1) a = (Array.replicate n a).push a := @Array.replicate_succ
theorem aM.{u_1} : ∀ {α : Type u_1} (l₁ l₂ : List α), l₁.toArray ++ l₂.toArray = (l₁ ++ l₂).toArray := @List.append_toArray
theorem aN.{u_1} : ∀ {α : Type u_1} {n : Nat} {a : α}, (List.replicate n a).length = n := @List.length_replicate
theorem aO.{u_1} : ∀ {α : Type u_1} {xs : List α} {i : Nat}, xs.toArray[i]? = xs[i]? := @List.getElem?_toArray
theorem aP.{u_1} : ∀ {α : Type u_1} {xs' : List α}, xs'.toArray.size = xs'.length := @List.size_toArray
theorem aQ.{u_1} : ∀ {α : Type u_1} {a b : α} {n : Nat}, b ∈ List.replicate n a → b = a := @List.eq_of_mem_replicate
theorem aR.{u_1,u_2} : ∀ {α : Type u_1} {β : Type u_2} {f : α → β} {l : List α} {i : Nat}, (List.map f l)[i]? = Option.map f l[i]? := @List.getElem?_map
theorem aS.{u_1} : ∀ {α : Type u_1} {l₁ l₂ : List α} {i : Nat}, l₁.length ≤ i → (l₁ ++ l₂)[i]? = l₂[i - l₁.length]? := @List.getElem?_append_right
theorem aT.{u_1} : ∀ {α : Type u_1} (l : List α) (a : α), l.toArray.push a = (l ++ [a]).toArray := @List.push_toArray
theorem aU.{u_1} : ∀ {α : Type u_1} (xs' : List α), [] ++ xs' = xs' := @List.nil_append
theorem aV.{u_1} : ∀ {α : Type u_1}, ([] : List α).length = 0 := @List.length_nil
theorem aW : ∀ (n : Nat), 0 ≤ n := @Nat.zero_le
theorem aX.{u_1} : ∀ {α : Type u_1} {a : α} {xs' bs : List α}, a :: xs' ++ bs = a :: (xs' ++ bs) := @List.cons_append
theorem aY : ∀ (n m : Nat), ((n + m : Nat) : Int) = (n : Int) + (m : Int) := @Int.natCast_add
theorem aZ.{u_1} : ∀ {α : Type u_1} {l : List α} {i : Nat} {a b : α}, a ∈ l.set i b → a ∈ l ∨ a = b := @List.mem_or_eq_of_mem_set
theorem bf : ∀ {a b : Nat}, a < b → a % b = a := @Nat.mod_eq_of_lt
theorem bg.{u_1} : ∀ {α : Type u_1} {p : α → Bool} {l : List α}, l.all p = true ↔ ∀ (x : α), x ∈ l → p x = true := @List.all_eq_true
theorem bj.{u_1} : ∀ {α : Type u_1} {l₁ l₂ : List α} {i : Nat}, i < l₁.length → (l₁ ++ l₂)[i]? = l₁[i]? := @List.getElem?_append_left
theorem bu.{u_1} : ∀ {α : Type u_1} {a : α} {s t : List α}, a ∈ s ++ t ↔ a ∈ s ∨ a ∈ t := @List.mem_append
theorem bB.{u_1} : ∀ {α : Type u_1} {i : Nat} {l : List α} (h : i < l.length), List.take (i + 1) l = List.take i l ++ [l[i]] := @List.take_succ_eq_append_getElem
theorem bD : ∀ (n : Nat), n < n.succ := @Nat.lt_succ_self
theorem bG.{u_1} : ∀ {α : Type u_1} {l : List α} {i j : Nat} {a : α}, (l.set i a)[j]? = if i = j then if i < l.length then some a else none else l[j]? := @List.getElem?_set
theorem bJ.{u_1} : ∀ {α : Type u_1} {xs : Array α} {i : Nat}, xs.toList[i]? = xs[i]? := @Array.getElem?_toList
theorem bK.{u_1} : ∀ {α : Type u_1} {l : List α}, List.take l.length l = l := @List.take_length
theorem bL : ∀ {n m : Nat}, n < m → n ≤ m := @Nat.le_of_lt
theorem bM : ∀ (n : Nat), 0 + n = n := @Nat.zero_add
theorem bN : ∀ (n : Nat), n + 0 = n := @Nat.add_zero
theorem bP : ∀ (n : Nat), n * 1 = n := @Nat.mul_one
theorem bQ.{u_1} : ∀ {α : Type u_1} {a b : α}, a ∈ [b] ↔ a = b := @List.mem_singleton
theorem bU : ∀ {p : Prop}, p → Hid p := @Lib.hid
theorem bV : ∀ (B : Nat) (w : World), Below B w w := @Below.refl
end Go
