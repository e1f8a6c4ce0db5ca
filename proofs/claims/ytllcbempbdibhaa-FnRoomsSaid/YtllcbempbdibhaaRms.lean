/- Own work: contracts of functions. No condition beyond those that each theorem names. -/
import Derived.Test.YtllcbempbdibhaaProg
import Derived.Test.YtllcbempbdibhaaPrs
namespace Go.Proofs.Ytllcbempbdibhaa
open Go Go.Vc
set_option maxRecDepth 100000
set_option linter.unusedSimpArgs false
set_option linter.unusedVariables false
def K_impl_RoomsOk:List Nat:=[0,2,3,4,5,6,7,13,14,15,37,38,39]
def C_impl_RoomsOk : C :=
 let ks:=K_impl_RoomsOk
 (.seq
  (.rg 0 [(none,.v 2 .mv [.k (.b false)])])
  (.cl ks (.seq
  (.rg 0 [(none,.v 8 .mv [.s 0]),(none,.v 9 .len [.s 8]),(none,.tk 3 9)])
  (.cl ks (.seq
  (.seq
  (.rg 0 [(none,.v 10 .mv [.s 3]),(none,.co 11 78 [.s 10]),(none,.v 12 .not [.s 11])])
  (.cond (.s 12)
  (.seq
  (.rg 0 [(none,.v 2 .mv [.k (.b false)])])
  .ret)
  .skip))
  (.cl ks (.seq
  (.seq
  (.rg 0 [(none,.v 13 .mv [.s 0]),(none,.v 14 .len [.s 13]),(none,.v 15 .mv [.k (.i 0)])])
  (.cl ks (.block 0
  (.loop
  (.seq
  (.rg 0 [(none,.v 16 (.bin .lss) [.s 15,.s 14])])
  (.seq
  (.cond (.s 16)
  .skip
  (.exit 0))
  (.cl ks (.seq
  (.block 1
  (.seq
  (.rg 0 [(none,.v 17 .mv [.s 15]),(none,.v 18 .idx [.s 13,.s 15]),(none,.v 19 .ld [.s 18]),(none,.tk 4 17),(none,.tk 5 19)])
  (.cl ks (.seq
  (.seq
  (.rg 0 [(none,.v 20 .mv [.s 5]),(none,.v 21 .len [.s 20]),(none,.v 22 .mv [.s 3]),(none,.v 23 (.bin .sub) [.s 22,.k (.i 1)]),(none,.v 24 (.bin .neq) [.s 21,.s 23]),(none,.v 25 .mv [.s 24]),(some (25,false),.v 26 .mv [.s 5]),(some (25,false),.v 27 .mv [.s 3]),(some (25,false),.v 28 (.bin .sub) [.s 27,.k (.i 1)]),(some (25,false),.co 29 81 [.s 26,.k (.i 0),.s 28]),(some (25,false),.v 30 .not [.s 29]),(none,.v 31 .pick [.s 25,.k (.b true),.s 30]),(none,.v 32 .mv [.s 31]),(some (32,false),.v 33 .mv [.s 5]),(some (32,false),.v 34 .mv [.s 4]),(some (32,false),.co 35 82 [.s 33,.s 34]),(none,.v 36 .pick [.s 32,.k (.b true),.s 35])])
  (.cond (.s 36)
  (.seq
  (.rg 0 [(none,.v 2 .mv [.k (.b false)])])
  .ret)
  .skip))
  (.cl ks (.seq
  (.rg 0 [(none,.v 37 .mv [.s 5]),(none,.v 38 .len [.s 37]),(none,.v 39 .mv [.k (.i 0)])])
  (.cl ks (.block 2
  (.loop
  (.seq
  (.rg 0 [(none,.v 40 (.bin .lss) [.s 39,.s 38])])
  (.seq
  (.cond (.s 40)
  .skip
  (.exit 2))
  (.cl ks (.seq
  (.block 3
  (.seq
  (.rg 0 [(none,.v 41 .mv [.s 39]),(none,.v 42 .idx [.s 37,.s 39]),(none,.v 43 .ld [.s 42]),(none,.tk 6 41),(none,.tk 7 43)])
  (.cl ks (.seq
  (.rg 0 [(none,.v 44 .mv [.s 5]),(none,.v 45 .mv [.s 6]),(none,.v 46 (.sub false true) [.s 44,.s 45]),(none,.v 47 .mv [.s 7]),(none,.co 48 82 [.s 46,.s 47])])
  (.cond (.s 48)
  (.seq
  (.rg 0 [(none,.v 2 .mv [.k (.b false)])])
  .ret)
  .skip)))))
  (.cl ks (.rg 0 [(none,.v 49 (.bin .add) [.s 39,.k (.i 1)]),(none,.v 39 .mv [.s 49])])))))))))))))))
  (.cl ks (.rg 0 [(none,.v 50 (.bin .add) [.s 15,.k (.i 1)]),(none,.v 15 .mv [.s 50])]))))))))))
  (.cl ks (.seq
  (.rg 0 [(none,.v 2 .mv [.k (.b true)])])
  .ret)))))))))
theorem chk_impl_RoomsOk:∃ b,Try.f37.body = some b ∧ chk Try.prog Try.f37.ntmps true C_impl_RoomsOk b = true:=⟨_,rfl,by kernel_rfl⟩
def K_impl_IsPairing:List Nat:=[0,1,4,5,6,23,24,25]
def C_impl_IsPairing : C :=
 let ks:=K_impl_IsPairing
 (.seq
  (.rg 0 [(none,.v 4 .mv [.k (.b false)])])
  (.cl ks (.seq
  (.seq
  (.rg 0 [(none,.v 7 .mv [.s 0]),(none,.co 8 78 [.s 7]),(none,.v 9 .not [.s 8]),(none,.v 10 .mv [.s 9]),(some (10,false),.v 11 .mv [.s 1]),(some (10,false),.v 12 .len [.s 11]),(some (10,false),.v 13 .mv [.s 0]),(some (10,false),.v 14 (.bin .neq) [.s 12,.s 13]),(none,.v 15 .pick [.s 10,.k (.b true),.s 14]),(none,.v 16 .mv [.s 15]),(some (16,false),.v 17 .mv [.s 1]),(some (16,false),.v 18 .mv [.s 0]),(some (16,false),.v 19 (.bin .sub) [.s 18,.k (.i 1)]),(some (16,false),.co 20 81 [.s 17,.k (.i 0),.s 19]),(some (16,false),.v 21 .not [.s 20]),(none,.v 22 .pick [.s 16,.k (.b true),.s 21])])
  (.cond (.s 22)
  (.seq
  (.rg 0 [(none,.v 4 .mv [.k (.b false)])])
  .ret)
  .skip))
  (.cl ks (.seq
  (.seq
  (.rg 0 [(none,.v 23 .mv [.s 1]),(none,.v 24 .len [.s 23]),(none,.v 25 .mv [.k (.i 0)])])
  (.cl ks (.block 0
  (.loop
  (.seq
  (.rg 0 [(none,.v 26 (.bin .lss) [.s 25,.s 24])])
  (.seq
  (.cond (.s 26)
  .skip
  (.exit 0))
  (.cl ks (.seq
  (.block 1
  (.seq
  (.rg 0 [(none,.v 27 .mv [.s 25]),(none,.v 28 .idx [.s 23,.s 25]),(none,.v 29 .ld [.s 28]),(none,.tk 5 27),(none,.tk 6 29)])
  (.cl ks (.seq
  (.rg 0 [(none,.v 30 .mv [.s 6]),(none,.v 31 .mv [.s 5]),(none,.v 32 (.bin .eql) [.s 30,.s 31]),(none,.v 33 .mv [.s 32]),(some (33,false),.v 34 .mv [.s 1]),(some (33,false),.v 35 .mv [.s 6]),(some (33,false),.v 36 .idx [.s 34,.s 35]),(some (33,false),.v 37 .ld [.s 36]),(some (33,false),.v 38 .mv [.s 5]),(some (33,false),.v 39 (.bin .neq) [.s 37,.s 38]),(none,.v 40 .pick [.s 33,.k (.b true),.s 39])])
  (.cond (.s 40)
  (.seq
  (.rg 0 [(none,.v 4 .mv [.k (.b false)])])
  .ret)
  .skip)))))
  (.cl ks (.rg 0 [(none,.v 41 (.bin .add) [.s 25,.k (.i 1)]),(none,.v 25 .mv [.s 41])]))))))))))
  (.cl ks (.seq
  (.rg 0 [(none,.v 4 .mv [.k (.b true)])])
  .ret)))))))
theorem chk_impl_IsPairing:∃ b,Try.f41.body = some b ∧ chk Try.prog Try.f41.ntmps true C_impl_IsPairing b = true:=⟨_,rfl,by kernel_rfl⟩
def K_impl_roomBlocks:List Nat:=[0,1,4,5,6,7,9,10]
def C_impl_roomBlocks : C :=
 let ks:=K_impl_roomBlocks
 (.seq
  (.rg 0 [(none,.mkn 4)])
  (.cl ks (.seq
  (.rg 0 [(none,.mkn 5)])
  (.cl ks (.seq
  (.seq
  (.rg 0 [(none,.v 8 .mv [.s 1]),(none,.v 9 .len [.s 8]),(none,.v 10 .mv [.k (.i 0)])])
  (.cl ks (.block 0
  (.loop
  (.seq
  (.rg 0 [(none,.v 11 (.bin .lss) [.s 10,.s 9])])
  (.seq
  (.cond (.s 11)
  .skip
  (.exit 0))
  (.cl ks (.seq
  (.block 1
  (.seq
  (.rg 0 [(none,.v 12 .mv [.s 10]),(none,.tk 6 12)])
  (.cl ks (.seq
  (.rg 0 [(none,.v 13 .mv [.s 6]),(none,.v 14 (.bin .add) [.s 13,.k (.i 1)]),(none,.tk 7 14)])
  (.cl ks (.block 2
  (.loop
  (.seq
  (.seq
  (.rg 0 [(none,.v 15 .mv [.s 7]),(none,.v 16 .mv [.s 1]),(none,.v 17 .len [.s 16]),(none,.v 18 (.bin .lss) [.s 15,.s 17])])
  (.cond (.s 18)
  .skip
  (.exit 2)))
  (.cl ks (.seq
  (.block 3
  (.seq
  (.rg 20 [(none,.v 21 .mv [.s 0]),(none,.v 22 .mv [.s 6]),(none,.v 23 .idx [.s 21,.s 22]),(none,.v 24 .ld [.s 23]),(none,.v 25 .mv [.s 7]),(none,.v 26 .mv [.s 1]),(none,.v 27 .mv [.s 6]),(none,.v 28 .idx [.s 26,.s 27]),(none,.v 29 .ld [.s 28]),(none,.v 30 (.call 61) [.s 24,.s 25,.s 29]),(none,.v 31 .mv [.s 30]),(some (31,true),.v 32 .mv [.s 0]),(some (31,true),.v 33 .mv [.s 7]),(some (31,true),.v 34 .idx [.s 32,.s 33]),(some (31,true),.v 35 .ld [.s 34]),(some (31,true),.v 36 .mv [.s 6]),(some (31,true),.v 37 .mv [.s 1]),(some (31,true),.v 38 .mv [.s 7]),(some (31,true),.v 39 .idx [.s 37,.s 38]),(some (31,true),.v 40 .ld [.s 39]),(some (31,true),.co 41 61 [.s 35,.s 36,.s 40]),(none,.v 42 .pick [.s 31,.s 41,.k (.b false)])])
  (.cond (.s 42)
  (.rg 0 [(none,.v 43 .mv [.s 5]),(none,.v 44 .mv [.s 6]),(none,.v 45 .mv [.s 7]),(none,.lit 46 [.s 44,.s 45] 0),(none,.lit 47 [.s 46] 1),(none,.app 48 (.s 43) (.s 47) 1),(none,.tk 5 48)])
  .skip)))
  (.cl ks (.rg 0 [(none,.v 19 .mv [.s 7]),(none,.v 20 (.bin .add) [.s 19,.k (.i 1)]),(none,.tk 7 20)]))))))))))))
  (.cl ks (.rg 0 [(none,.v 49 (.bin .add) [.s 10,.k (.i 1)]),(none,.v 10 .mv [.s 49])]))))))))))
  (.cl ks (.seq
  (.rg 0 [(none,.v 50 .mv [.s 5]),(none,.tk 4 50)])
  .ret)))))))
theorem chk_impl_roomBlocks:∃ b,Try.f80.body = some b ∧ chk Try.prog Try.f80.ntmps true C_impl_roomBlocks b = true:=⟨_,rfl,by kernel_rfl⟩
def K_impl_IsStablePairing:List Nat:=[0,1,4]
def C_impl_IsStablePairing : C :=
 let ks:=K_impl_IsStablePairing
 (.seq
  (.rg 0 [(none,.v 4 .mv [.k (.b false)])])
  (.cl ks (.seq
  (.rg 0 [(none,.v 5 .mv [.s 0]),(none,.co 6 37 [.s 5]),(none,.v 7 .mv [.s 6]),(some (7,true),.v 8 .mv [.s 0]),(some (7,true),.v 9 .len [.s 8]),(some (7,true),.v 10 .mv [.s 1]),(some (7,true),.co 11 41 [.s 9,.s 10]),(none,.v 12 .pick [.s 7,.s 11,.k (.b false)]),(none,.v 13 .mv [.s 12]),(some (13,true),.v 14 .mv [.s 0]),(some (13,true),.v 15 .mv [.s 1]),(some (13,true),.co 16 80 [.s 14,.s 15]),(some (13,true),.v 17 .len [.s 16]),(some (13,true),.v 18 (.bin .eql) [.s 17,.k (.i 0)]),(none,.v 19 .pick [.s 13,.s 18,.k (.b false)]),(none,.tk 4 19)])
  .ret)))
theorem chk_impl_IsStablePairing:∃ b,Try.f39.body = some b ∧ chk Try.prog Try.f39.ntmps true C_impl_IsStablePairing b = true:=⟨_,rfl,by kernel_rfl⟩
def K_impl_BlockingRooms:List Nat:=[0,1,4]
def C_impl_BlockingRooms : C :=
 let ks:=K_impl_BlockingRooms
 (.seq
  (.rg 0 [(none,.mkn 4)])
  (.cl ks (.seq
  (.seq
  (.rg 0 [(none,.v 5 .mv [.s 0]),(none,.co 6 37 [.s 5]),(none,.v 7 .not [.s 6]),(none,.v 8 .mv [.s 7]),(some (8,false),.v 9 .mv [.s 0]),(some (8,false),.v 10 .len [.s 9]),(some (8,false),.v 11 .mv [.s 1]),(some (8,false),.co 12 41 [.s 10,.s 11]),(some (8,false),.v 13 .not [.s 12]),(none,.v 14 .pick [.s 8,.k (.b true),.s 13])])
  (.cond (.s 14)
  (.seq
  (.rg 0 [(none,.mkn 4)])
  .ret)
  .skip))
  (.cl ks (.seq
  (.rg 0 [(none,.v 15 .mv [.s 0]),(none,.v 16 .mv [.s 1]),(none,.co 17 80 [.s 15,.s 16]),(none,.tk 4 17)])
  .ret)))))
theorem chk_impl_BlockingRooms:∃ b,Try.f40.body = some b ∧ chk Try.prog Try.f40.ntmps true C_impl_BlockingRooms b = true:=⟨_,rfl,by kernel_rfl⟩
def K_impl_StablePairings:List Nat:=[0,2,3,5,11,12,13]
def C_impl_StablePairings : C :=
 let ks:=K_impl_StablePairings
 (.seq
  (.rg 0 [(none,.mkn 2)])
  (.cl ks (.seq
  (.seq
  (.rg 0 [(none,.v 6 .mv [.s 0]),(none,.co 7 37 [.s 6]),(none,.v 8 .not [.s 7])])
  (.cond (.s 8)
  (.seq
  (.rg 0 [(none,.mkn 2)])
  .ret)
  .skip))
  (.cl ks (.seq
  (.rg 0 [(none,.mkn 3)])
  (.cl ks (.seq
  (.seq
  (.rg 0 [(none,.v 9 .mv [.s 0]),(none,.v 10 .len [.s 9]),(none,.co 11 34 [.s 10]),(none,.v 12 .len [.s 11]),(none,.v 13 .mv [.k (.i 0)])])
  (.cl ks (.block 0
  (.loop
  (.seq
  (.rg 0 [(none,.v 14 (.bin .lss) [.s 13,.s 12])])
  (.seq
  (.cond (.s 14)
  .skip
  (.exit 0))
  (.cl ks (.seq
  (.block 1
  (.seq
  (.rg 0 [(none,.v 15 .idx [.s 11,.s 13]),(none,.v 16 .ld [.s 15]),(none,.tk 5 16)])
  (.cl ks (.seq
  (.rg 0 [(none,.v 17 .mv [.s 0]),(none,.v 18 .mv [.s 5]),(none,.co 19 80 [.s 17,.s 18]),(none,.v 20 .len [.s 19]),(none,.v 21 (.bin .eql) [.s 20,.k (.i 0)])])
  (.cond (.s 21)
  (.rg 0 [(none,.v 22 .mv [.s 3]),(none,.v 23 .mv [.s 5]),(none,.lit 24 [.s 23] 2),(none,.app 25 (.s 22) (.s 24) 2),(none,.tk 3 25)])
  .skip)))))
  (.cl ks (.rg 0 [(none,.v 26 (.bin .add) [.s 13,.k (.i 1)]),(none,.v 13 .mv [.s 26])]))))))))))
  (.cl ks (.seq
  (.rg 0 [(none,.v 27 .mv [.s 3]),(none,.tk 2 27)])
  .ret)))))))))
theorem chk_impl_StablePairings:∃ b,Try.f35.body = some b ∧ chk Try.prog Try.f35.ntmps true C_impl_StablePairings b = true:=⟨_,rfl,by kernel_rfl⟩
def K_impl_FirstPairing:List Nat:=[0,2,3,4]
def C_impl_FirstPairing : C :=
 let ks:=K_impl_FirstPairing
 (.seq
  (.rg 0 [(none,.mkn 2),(none,.v 3 .mv [.k (.b false)])])
  (.cl ks (.seq
  (.rg 0 [(none,.v 5 .mv [.s 0]),(none,.co 6 35 [.s 5]),(none,.tk 4 6)])
  (.cl ks (.seq
  (.seq
  (.rg 0 [(none,.v 7 .mv [.s 4]),(none,.v 8 .len [.s 7]),(none,.v 9 (.bin .eql) [.s 8,.k (.i 0)])])
  (.cond (.s 9)
  (.seq
  (.rg 0 [(none,.mkn 2),(none,.v 3 .mv [.k (.b false)])])
  .ret)
  .skip))
  (.cl ks (.seq
  (.rg 0 [(none,.v 10 .mv [.s 4]),(none,.v 11 .idx [.s 10,.k (.i 0)]),(none,.v 12 .ld [.s 11]),(none,.tk 2 12),(none,.v 3 .mv [.k (.b true)])])
  .ret)))))))
theorem chk_impl_FirstPairing:∃ b,Try.f36.body = some b ∧ chk Try.prog Try.f36.ntmps true C_impl_FirstPairing b = true:=⟨_,rfl,by kernel_rfl⟩
def K_impl_FewestBlocks:List Nat:=[0,2,3,5,16,17,18]
def C_impl_FewestBlocks : C :=
 let ks:=K_impl_FewestBlocks
 (.seq
  (.rg 0 [(none,.v 2 .mv [.k (.i 0)])])
  (.cl ks (.seq
  (.seq
  (.rg 0 [(none,.v 6 .mv [.s 0]),(none,.co 7 37 [.s 6]),(none,.v 8 .not [.s 7])])
  (.cond (.s 8)
  (.seq
  (.rg 0 [(none,.v 2 .mv [.k (.i (-1))])])
  .ret)
  .skip))
  (.cl ks (.seq
  (.rg 0 [(none,.v 9 .mv [.s 0]),(none,.v 10 .len [.s 9]),(none,.v 11 .mv [.s 0]),(none,.v 12 .len [.s 11]),(none,.v 13 (.bin .mul) [.s 10,.s 12]),(none,.tk 3 13)])
  (.cl ks (.seq
  (.seq
  (.rg 0 [(none,.v 14 .mv [.s 0]),(none,.v 15 .len [.s 14]),(none,.co 16 34 [.s 15]),(none,.v 17 .len [.s 16]),(none,.v 18 .mv [.k (.i 0)])])
  (.cl ks (.block 0
  (.loop
  (.seq
  (.rg 0 [(none,.v 19 (.bin .lss) [.s 18,.s 17])])
  (.seq
  (.cond (.s 19)
  .skip
  (.exit 0))
  (.cl ks (.seq
  (.block 1
  (.seq
  (.rg 0 [(none,.v 20 .idx [.s 16,.s 18]),(none,.v 21 .ld [.s 20]),(none,.tk 5 21)])
  (.cl ks (.rg 0 [(none,.v 22 .mv [.s 3]),(none,.v 23 .mv [.s 0]),(none,.v 24 .mv [.s 5]),(none,.co 25 80 [.s 23,.s 24]),(none,.v 26 .len [.s 25]),(none,.v 27 .mn [.s 22,.s 26]),(none,.tk 3 27)]))))
  (.cl ks (.rg 0 [(none,.v 28 (.bin .add) [.s 18,.k (.i 1)]),(none,.v 18 .mv [.s 28])]))))))))))
  (.cl ks (.seq
  (.rg 0 [(none,.v 29 .mv [.s 3]),(none,.tk 2 29)])
  .ret)))))))))
theorem chk_impl_FewestBlocks:∃ b,Try.f38.body = some b ∧ chk Try.prog Try.f38.ntmps true C_impl_FewestBlocks b = true:=⟨_,rfl,by kernel_rfl⟩
structure Rm (x : List (List Int)) : Prop where
 ev:x.length = 2 ∨ x.length = 4 ∨ x.length = 6
 len:∀ i,i < x.length → (x.getD i []).length + 1 = x.length
 bd:∀ i,i < x.length → ∀ v ∈ x.getD i [],0 ≤ v ∧ v < x.length
 own:∀ i,i < x.length → (i:Int) ∉ x.getD i []
 nd:∀ i,i < x.length → (x.getD i []).Nodup
def pairB (n:Nat) (l:List Int):Bool:=decide (l.length = n) && (List.range n).all fun i => decide (0 ≤ l.getD i 0 ∧ l.getD i 0 < n ∧ l.getD i 0 ≠ i ∧ l.getD (l.getD i 0).toNat 0 = i)
def rbI (x:List (List Int)) (l:List Int) (i k:Nat):Bool:=prefB (x.getD i []) k (l.getD i 0) && prefB (x.getD k []) i (l.getD k 0)
def rbR (x : List (List Int)) (l : List Int) (i : Nat) : Nat → List (List Int)
 | 0 => []
 | k + 1 => rbR x l i k ++ if i < k ∧ rbI x l i k = true then [[(i:Int),(k:Int)]] else []
def rbL (x : List (List Int)) (l : List Int) (n : Nat) : Nat → List (List Int)
 | 0 => []
 | i + 1 => rbL x l n i ++ rbR x l i n
section
variable {x:List (List Int)} {l:List Int}
theorem rbR_0 {i : Nat} : ∀ {k : Nat}, k ≤ i + 1 → rbR x l i k = []
 | 0,_ => rfl
 | k + 1,h => by rw [rbR,rbR_0 (by omega),if_neg (by omega)]; rfl
theorem rbR_len {i : Nat} : ∀ {k : Nat}, (rbR x l i k).length ≤ k
 | 0 => Nat.le_refl _
 | k + 1 => by
  have:=rbR_len (i:=i) (k:=k)
  rw [rbR,List.length_append]
  split
  ·simp only [List.length_singleton]; omega
  ·simp; omega
theorem rbL_len {n : Nat} : ∀ {i : Nat}, (rbL x l n i).length ≤ i * n
 | 0 => by simp [rbL]
 | i + 1 => by
  have:=rbL_len (n:=n) (i:=i)
  have h2:=rbR_len (x:=x) (l:=l) (i:=i) (k:=n)
  rw [rbL,List.length_append,Nat.succ_mul]; omega
theorem rbR_nil {i : Nat} : ∀ {n : Nat}, rbR x l i n = [] ↔ ∀ k, k < n → i < k → rbI x l i k = false
 | 0 => by simp [rbR]
 | n + 1 => by
  rw [rbR,List.append_eq_nil_iff,rbR_nil]
  constructor
  ·rintro ⟨h1,h2⟩ k hk hik
   by_cases e : k = n
   ·subst e
    cases hb:rbI x l i k with
    | false => rfl
    | true => rw [if_pos ⟨hik,hb⟩] at h2; cases h2
   ·exact h1 k (by omega) hik
  ·intro h
   refine ⟨fun k hk hik => h k (by omega) hik,?_⟩
   rw [if_neg fun hh => by have:=h n (by omega) hh.1; rw [hh.2] at this; cases this]
theorem rbL_nil {n : Nat} : ∀ {m : Nat}, rbL x l n m = [] ↔ ∀ i, i < m → ∀ k, k < n → i < k → rbI x l i k = false
 | 0 => by simp [rbL]
 | m + 1 => by
  rw [rbL,List.append_eq_nil_iff,rbL_nil,rbR_nil]
  constructor
  ·rintro ⟨h1,h2⟩ i hi k hk hik
   by_cases e : i = m
   ·subst e; exact h2 k hk hik
   ·exact h1 i (by omega) k hk hik
  ·intro h
   exact ⟨fun i hi k hk hik => h i (by omega) k hk hik,fun k hk hik => h m (by omega) k hk hik⟩
end
def stB (x:List (List Int)) (l:List Int):Bool:=decide (((rbL x l x.length x.length).length:Int) = 0)
theorem stB_iff {x : List (List Int)} {l : List Int} : stB x l = true ↔ ∀ i, i < x.length → ∀ k, k < x.length → i < k → rbI x l i k = false := by
 unfold stB
 rw [decide_eq_true_eq,← rbL_nil]
 constructor
 ·intro h; exact List.eq_nil_of_length_eq_zero (by omega)
 ·intro h; rw [h]; rfl
theorem RoomsOk_ok {n1 : Option Bool} (x : List (List Int)) (R : Rm x) : CallOk Try.prog 37 [.s n1 (rr x)] [(0, .b true)] := by
 have h6:=R.ev
 obtain ⟨code0,hcd1,hcd2⟩:=chk_impl_RoomsOk; refine callOk_of Try.func37 hcd1 mo Try.call37 (rs:=[2]) (by kernel_rfl) hcd2 (by rw [Try.ntmps37]; simp) (by simp) (by decide) ?_; unfold C_impl_RoomsOk K_impl_RoomsOk; simp (maxSteps:=2000000) only [go_sem,Nat.reduceBEq,Nat.reduceAdd,Nat.reduceMul,Nat.reduceMod,Nat.reduceLT,Nat.reduceDiv,Nat.reduceSub,Nat.reduceLeDiff,Int.reduceToNat,Int.reduceLT,Int.reduceLE,reduceCtorEq]
 refine ⟨_,isEven_ok (x.length:Int),?_⟩; simp (maxSteps:=2000000) only [go_sem,Nat.reduceBEq,Nat.reduceAdd,Nat.reduceMul,Nat.reduceMod,Nat.reduceLT,Nat.reduceDiv,Nat.reduceSub,Nat.reduceLeDiff,Int.reduceToNat,Int.reduceLT,Int.reduceLE,reduceCtorEq]
 rw [evenB_of R.ev]
 simp (maxSteps:=2000000) only [go_sem,Nat.reduceBEq,Nat.reduceAdd,Nat.reduceMul,Nat.reduceMod,Nat.reduceLT,Nat.reduceDiv,Nat.reduceSub,Nat.reduceLeDiff,Int.reduceToNat,Int.reduceLT,Int.reduceLE,reduceCtorEq]
 refine loopN x.length (fun i => [(0,.t .arg (.s n1 (rr x))),(2,.b false),(3,.i x.length),(13,.t .arg (.s n1 (rr x))),(14,.i x.length),(15,.i (i:Nat))]) (fun _ => True) ⟨trivial,by simp (maxSteps:=2000000) only [go_sem,Nat.reduceBEq,Nat.reduceAdd,Nat.reduceMul,Nat.reduceMod,Nat.reduceLT,Nat.reduceDiv,Nat.reduceSub,Nat.reduceLeDiff,Int.reduceToNat,Int.reduceLT,Int.reduceLE,reduceCtorEq]; simp⟩ fun i hi _ => ?_
 simp (maxSteps:=2000000) only [go_sem,Nat.reduceBEq,Nat.reduceAdd,Nat.reduceMul,Nat.reduceMod,Nat.reduceLT,Nat.reduceDiv,Nat.reduceSub,Nat.reduceLeDiff,Int.reduceToNat,Int.reduceLT,Int.reduceLE,reduceCtorEq]
 refine ⟨fun hlt => ?_,fun hge => trivial⟩
 have hi':i < x.length:=by omega
 have hl:=R.len i hi'
 have hbd:=R.bd i hi'
 have hown:=R.own i hi'
 have hnd:=R.nd i hi'
 refine ⟨by omega,hi',hi',inR_of (by omega) (by omega),?_⟩
 generalize x.getD i [] = r at *
 have c1:((r.length:Int) = (x.length:Int) - 1) = True:=eq_true (by omega)
 have c2 : (r.all fun n => inI n 0 ((x.length : Int) - 1)) = true := List.all_eq_true.2 fun v hv => by
  have:=hbd v hv
  simp only [inI,Bool.and_eq_true,decide_eq_true_eq]; omega
 have c3 : (r.any fun y => decide ((i : Int) = y)) = false := List.any_eq_false.2 fun v hv => by
  have:(i:Int) ≠ v:=fun e => hown (by rw [e]; exact hv)
  simpa using this
 simp (maxSteps:=2000000) only [go_sem,Nat.reduceBEq,Nat.reduceAdd,Nat.reduceMul,Nat.reduceMod,Nat.reduceLT,Nat.reduceDiv,Nat.reduceSub,Nat.reduceLeDiff,Int.reduceToNat,Int.reduceLT,Int.reduceLE,reduceCtorEq,c1,true_implies,not_true_eq_false,decide_false]
 refine ⟨inR_of (by omega) (by omega),?_⟩
 refine ⟨_,allWithin_ok r 0 ((x.length:Int) - 1) (by omega),?_⟩; simp (maxSteps:=2000000) only [go_sem,Nat.reduceBEq,Nat.reduceAdd,Nat.reduceMul,Nat.reduceMod,Nat.reduceLT,Nat.reduceDiv,Nat.reduceSub,Nat.reduceLeDiff,Int.reduceToNat,Int.reduceLT,Int.reduceLE,reduceCtorEq]
 rw [c2]
 simp (maxSteps:=2000000) only [go_sem,Nat.reduceBEq,Nat.reduceAdd,Nat.reduceMul,Nat.reduceMod,Nat.reduceLT,Nat.reduceDiv,Nat.reduceSub,Nat.reduceLeDiff,Int.reduceToNat,Int.reduceLT,Int.reduceLE,reduceCtorEq]
 refine ⟨_,ContainsI r i (by omega),?_⟩; simp (maxSteps:=2000000) only [go_sem,Nat.reduceBEq,Nat.reduceAdd,Nat.reduceMul,Nat.reduceMod,Nat.reduceLT,Nat.reduceDiv,Nat.reduceSub,Nat.reduceLeDiff,Int.reduceToNat,Int.reduceLT,Int.reduceLE,reduceCtorEq]
 rw [c3]
 simp (maxSteps:=2000000) only [go_sem,Nat.reduceBEq,Nat.reduceAdd,Nat.reduceMul,Nat.reduceMod,Nat.reduceLT,Nat.reduceDiv,Nat.reduceSub,Nat.reduceLeDiff,Int.reduceToNat,Int.reduceLT,Int.reduceLE,reduceCtorEq]
 refine loopN r.length (fun k => [(0,.t .arg (.s n1 (rr x))),(2,.b false),(3,.i x.length),(4,.i i),(5,.t .arg (.s none (ii r))),(13,.t .arg (.s n1 (rr x))),(14,.i x.length),(15,.i (i:Nat)),(37,.t .arg (.s none (ii r))),(38,.i r.length),(39,.i (k:Nat))]) (fun _ => True) ⟨trivial,by simp (maxSteps:=2000000) only [go_sem,Nat.reduceBEq,Nat.reduceAdd,Nat.reduceMul,Nat.reduceMod,Nat.reduceLT,Nat.reduceDiv,Nat.reduceSub,Nat.reduceLeDiff,Int.reduceToNat,Int.reduceLT,Int.reduceLE,reduceCtorEq]; simp⟩ fun k hk _ => ?_
 simp (maxSteps:=2000000) only [go_sem,Nat.reduceBEq,Nat.reduceAdd,Nat.reduceMul,Nat.reduceMod,Nat.reduceLT,Nat.reduceDiv,Nat.reduceSub,Nat.reduceLeDiff,Int.reduceToNat,Int.reduceLT,Int.reduceLE,reduceCtorEq]
 refine ⟨fun hlt2 => ?_, fun hge2 => ?_⟩
 ·have hk':k < r.length:=by omega
  have c4 : ((r.take k).any fun y => decide (r.getD k 0 = y)) = false := List.any_eq_false.2 fun v hv => by
   obtain ⟨q,hq,e⟩:=List.mem_take_iff_getElem.1 hv
   have hne : r.getD k 0 ≠ v := fun e2 => by
    have:=List.pairwise_iff_getElem.1 hnd q k (by omega) hk' (by omega)
    rw [List.getD,List.getElem?_eq_getElem hk',Option.getD_some,← e] at e2
    exact this e2.symm
   simpa using hne
  refine ⟨by omega,hk',hk',by unfold subOk; omega,?_⟩
  rw [List.drop_zero]
  refine ⟨_,ContainsI (r.take k) (r.getD k 0) (by rw [List.length_take]; omega),?_⟩; simp (maxSteps:=2000000) only [go_sem,Nat.reduceBEq,Nat.reduceAdd,Nat.reduceMul,Nat.reduceMod,Nat.reduceLT,Nat.reduceDiv,Nat.reduceSub,Nat.reduceLeDiff,Int.reduceToNat,Int.reduceLT,Int.reduceLE,reduceCtorEq]
  rw [c4]
  simp (maxSteps:=2000000) only [go_sem,Nat.reduceBEq,Nat.reduceAdd,Nat.reduceMul,Nat.reduceMod,Nat.reduceLT,Nat.reduceDiv,Nat.reduceSub,Nat.reduceLeDiff,Int.reduceToNat,Int.reduceLT,Int.reduceLE,reduceCtorEq]
  exact ⟨inR_of (by omega) (by omega),hk',by simp⟩
 ·have:k = r.length:=by omega
  exact ⟨inR_of (by omega) (by omega),hi',by simp⟩
theorem IsPairing_ok {n1 : Option Bool} (n : Nat) (l : List Int) (he : n = 2 ∨ n = 4 ∨ n = 6) (hp : pairB n l = true) : CallOk Try.prog 41 [.i n, .s n1 (ii l)] [(0, .b true)] := by
 simp only [pairB,Bool.and_eq_true,decide_eq_true_eq,List.all_eq_true,List.mem_range] at hp
 obtain ⟨hl,hp⟩:=hp
 have c2 : (l.all fun v => inI v 0 ((n : Int) - 1)) = true := List.all_eq_true.2 fun v hv => by
  obtain ⟨j,hj,rfl⟩:=mem_getD 0 hv
  have:=hp j (by omega)
  simp only [inI,Bool.and_eq_true,decide_eq_true_eq]; omega
 obtain ⟨code0,hcd1,hcd2⟩:=chk_impl_IsPairing; refine callOk_of Try.func41 hcd1 mo Try.call41 (rs:=[4]) (by kernel_rfl) hcd2 (by rw [Try.ntmps41]; simp) (by simp) (by decide) ?_; unfold C_impl_IsPairing K_impl_IsPairing; simp (maxSteps:=2000000) only [go_sem,Nat.reduceBEq,Nat.reduceAdd,Nat.reduceMul,Nat.reduceMod,Nat.reduceLT,Nat.reduceDiv,Nat.reduceSub,Nat.reduceLeDiff,Int.reduceToNat,Int.reduceLT,Int.reduceLE,reduceCtorEq]
 refine ⟨_,isEven_ok (n:Int),?_⟩; simp (maxSteps:=2000000) only [go_sem,Nat.reduceBEq,Nat.reduceAdd,Nat.reduceMul,Nat.reduceMod,Nat.reduceLT,Nat.reduceDiv,Nat.reduceSub,Nat.reduceLeDiff,Int.reduceToNat,Int.reduceLT,Int.reduceLE,reduceCtorEq]
 rw [evenB_of he]
 simp (maxSteps:=2000000) only [go_sem,Nat.reduceBEq,Nat.reduceAdd,Nat.reduceMul,Nat.reduceMod,Nat.reduceLT,Nat.reduceDiv,Nat.reduceSub,Nat.reduceLeDiff,Int.reduceToNat,Int.reduceLT,Int.reduceLE,reduceCtorEq]
 refine ⟨fun _ => ⟨inR_of (by omega) (by omega),?_⟩,fun h => absurd hl h⟩
 refine ⟨_,allWithin_ok l 0 ((n:Int) - 1) (by omega),?_⟩; simp (maxSteps:=2000000) only [go_sem,Nat.reduceBEq,Nat.reduceAdd,Nat.reduceMul,Nat.reduceMod,Nat.reduceLT,Nat.reduceDiv,Nat.reduceSub,Nat.reduceLeDiff,Int.reduceToNat,Int.reduceLT,Int.reduceLE,reduceCtorEq]
 rw [c2]
 simp (maxSteps:=2000000) only [go_sem,Nat.reduceBEq,Nat.reduceAdd,Nat.reduceMul,Nat.reduceMod,Nat.reduceLT,Nat.reduceDiv,Nat.reduceSub,Nat.reduceLeDiff,Int.reduceToNat,Int.reduceLT,Int.reduceLE,reduceCtorEq]
 refine loopN l.length (fun i => [(0,.i n),(1,.t .arg (.s n1 (ii l))),(4,.b false),(23,.t .arg (.s n1 (ii l))),(24,.i l.length),(25,.i (i:Nat))]) (fun _ => True) ⟨trivial,by simp (maxSteps:=2000000) only [go_sem,Nat.reduceBEq,Nat.reduceAdd,Nat.reduceMul,Nat.reduceMod,Nat.reduceLT,Nat.reduceDiv,Nat.reduceSub,Nat.reduceLeDiff,Int.reduceToNat,Int.reduceLT,Int.reduceLE,reduceCtorEq]; simp⟩ fun i hi _ => ?_
 simp (maxSteps:=2000000) only [go_sem,Nat.reduceBEq,Nat.reduceAdd,Nat.reduceMul,Nat.reduceMod,Nat.reduceLT,Nat.reduceDiv,Nat.reduceSub,Nat.reduceLeDiff,Int.reduceToNat,Int.reduceLT,Int.reduceLE,reduceCtorEq]
 refine ⟨fun hlt => ?_,fun hge => trivial⟩
 have hi':i < l.length:=by omega
 have h4:=hp i (by omega)
 exact ⟨by omega,hi',hi',fun _ => ⟨by omega,by omega,by omega,fun h => h h4.2.2.2,fun _ => ⟨inR_of (by omega) (by omega),hi',by simp⟩⟩,fun h => h4.2.2.1 h⟩
theorem roomBlocks_ok {n1 n2 : Option Bool} (x : List (List Int)) (l : List Int) (hx : x.length ≤ 6) (hr : ∀ i, i < x.length → (x.getD i []).length ≤ 6) (hl : l.length = x.length) (hb : ∀ i, i < l.length → 0 ≤ l.getD i 0 ∧ l.getD i 0 < 6) :
  CallOk Try.prog 80 [.s n1 (rr x),.s n2 (ii l)] [(0,.own 1 none (rr (rbL x l x.length x.length)))]:=by
 obtain ⟨code0,hcd1,hcd2⟩:=chk_impl_roomBlocks; refine callOk_of Try.func80 hcd1 mo Try.call80 (rs:=[4]) (by kernel_rfl) hcd2 (by rw [Try.ntmps80]; simp) (by simp) (by decide) ?_; unfold C_impl_roomBlocks K_impl_roomBlocks; simp (maxSteps:=2000000) only [go_sem,Nat.reduceBEq,Nat.reduceAdd,Nat.reduceMul,Nat.reduceMod,Nat.reduceLT,Nat.reduceDiv,Nat.reduceSub,Nat.reduceLeDiff,Int.reduceToNat,Int.reduceLT,Int.reduceLE,reduceCtorEq]
 rw [← hl]
 refine loopN l.length (fun i => [(0,.t .arg (.s n1 (rr x))),(1,.t .arg (.s n2 (ii l))),(5,.own 1 none (rr (rbL x l l.length i))),(9,.i l.length),(10,.i (i:Nat))]) (fun _ => True) ⟨trivial,by simp (maxSteps:=2000000) only [go_sem,Nat.reduceBEq,Nat.reduceAdd,Nat.reduceMul,Nat.reduceMod,Nat.reduceLT,Nat.reduceDiv,Nat.reduceSub,Nat.reduceLeDiff,Int.reduceToNat,Int.reduceLT,Int.reduceLE,reduceCtorEq]; simp [rbL,rr,T.leL]⟩ fun i hi _ => ?_
 simp (maxSteps:=2000000) only [go_sem,Nat.reduceBEq,Nat.reduceAdd,Nat.reduceMul,Nat.reduceMod,Nat.reduceLT,Nat.reduceDiv,Nat.reduceSub,Nat.reduceLeDiff,Int.reduceToNat,Int.reduceLT,Int.reduceLE,reduceCtorEq]
 refine ⟨fun hlt => ?_, fun hge => ?_⟩
 ·have hi':i < l.length:=by omega
  refine ⟨inR_of (by omega) (by omega),?_⟩
  refine loopN (l.length - (i + 1)) (fun t => [(0,.t .arg (.s n1 (rr x))),(1,.t .arg (.s n2 (ii l))),(5,.own 1 none (rr (rbL x l l.length i ++ rbR x l i (i + 1 + t)))),(6,.i i),(7,.i ((i + 1 + t:Nat):Int)),(9,.i l.length),(10,.i (i:Nat))]) (fun _ => True) ⟨trivial,by simp (maxSteps:=2000000) only [go_sem,Nat.reduceBEq,Nat.reduceAdd,Nat.reduceMul,Nat.reduceMod,Nat.reduceLT,Nat.reduceDiv,Nat.reduceSub,Nat.reduceLeDiff,Int.reduceToNat,Int.reduceLT,Int.reduceLE,reduceCtorEq]; rw [rbR_0 (by omega),List.append_nil]; simp⟩ fun t ht _ => ?_
  simp (maxSteps:=2000000) only [go_sem,Nat.reduceBEq,Nat.reduceAdd,Nat.reduceMul,Nat.reduceMod,Nat.reduceLT,Nat.reduceDiv,Nat.reduceSub,Nat.reduceLeDiff,Int.reduceToNat,Int.reduceLT,Int.reduceLE,reduceCtorEq]
  refine ⟨fun hlt2 => ?_, fun hge2 => ?_⟩
  ·have hk:i + 1 + t < l.length:=by omega
   have e1:rbR x l i (i + 1 + (t + 1)) = rbR x l i (i + 1 + t) ++ if i < i + 1 + t ∧ rbI x l i (i + 1 + t) = true then [[(i:Int),((i + 1 + t:Nat):Int)]] else []:=rfl
   have hq:=rbR_len (x:=x) (l:=l) (i:=i) (k:=i + 1 + t)
   have hq2:=rbL_len (x:=x) (l:=l) (n:=l.length) (i:=i)
   have hq3:i * l.length ≤ 6 * 6:=Nat.mul_le_mul (by omega) (by omega)
   have bi:=hb i hi'
   generalize hkk:i + 1 + t = k at *
   have bk:=hb k hk
   refine ⟨by omega,by omega,by omega,by omega,by omega,by omega,?_⟩
   refine ⟨_,impl_Prefers_ok (x.getD i []) k (l.getD i 0) (by have:=hr i (by omega); omega),?_⟩; simp (maxSteps:=2000000) only [go_sem,Nat.reduceBEq,Nat.reduceAdd,Nat.reduceMul,Nat.reduceMod,Nat.reduceLT,Nat.reduceDiv,Nat.reduceSub,Nat.reduceLeDiff,Int.reduceToNat,Int.reduceLT,Int.reduceLE,reduceCtorEq]
   refine ⟨fun h1 => ⟨by omega, by omega, by omega, by omega, by omega, by omega, ?_⟩, fun h1 => ?_⟩
   ·refine ⟨_,impl_Prefers_ok (x.getD k []) i (l.getD k 0) (by have:=hr k (by omega); omega),?_⟩; simp (maxSteps:=2000000) only [go_sem,Nat.reduceBEq,Nat.reduceAdd,Nat.reduceMul,Nat.reduceMod,Nat.reduceLT,Nat.reduceDiv,Nat.reduceSub,Nat.reduceLeDiff,Int.reduceToNat,Int.reduceLT,Int.reduceLE,reduceCtorEq]
    refine ⟨fun h2 => ⟨by simp,by rw [List.length_append]; omega,inR_of (by omega) (by omega),by omega,?_,by omega⟩,fun h2 => ⟨inR_of (by omega) (by omega),by omega,by rw [e1,if_neg fun hh => (by have:=hh.2; unfold rbI at this; rw [h2,Bool.and_false] at this; cases this),List.append_nil],by omega⟩⟩
    rw [e1,if_pos ⟨by omega,by simp only [rbI,Bool.and_eq_true]; exact ⟨h1,h2⟩⟩,← List.append_assoc]
    exact leL_rr_app (r:=[(i:Int),(k:Int)])
   ·exact ⟨inR_of (by omega) (by omega),by omega,by rw [e1,if_neg fun hh => (by have:=hh.2; unfold rbI at this; rw [h1,Bool.false_and] at this; cases this),List.append_nil],by omega⟩
  ·have:i + 1 + t = l.length:=by omega
   rw [this]
   exact ⟨inR_of (by omega) (by omega),hi',rfl,by simp⟩
 ·have:i = l.length:=by omega
  subst this
  rfl
theorem Rm.lens {x : List (List Int)} (R : Rm x) : x.length ≤ 6 ∧ (∀ i, i < x.length → (x.getD i []).length ≤ 6) := by
 have:=R.ev
 refine ⟨by omega,fun i hi => ?_⟩
 have:=R.len i hi
 omega
theorem pair_len {n : Nat} {l : List Int} (h : pairB n l = true) : l.length = n ∧ ∀ i, i < n → 0 ≤ l.getD i 0 ∧ l.getD i 0 < n ∧ l.getD i 0 ≠ i ∧ l.getD (l.getD i 0).toNat 0 = i := by
 simp only [pairB,Bool.and_eq_true,decide_eq_true_eq,List.all_eq_true,List.mem_range] at h
 exact h
theorem blocks_of {n1 n2 : Option Bool} (x : List (List Int)) (l : List Int) (R : Rm x) (hp : pairB x.length l = true) :
  CallOk Try.prog 80 [.s n1 (rr x),.s n2 (ii l)] [(0,.own 1 none (rr (rbL x l x.length x.length)))]:=by
 obtain ⟨h1,h2⟩:=pair_len hp
 have:=R.lens.1
 exact roomBlocks_ok x l R.lens.1 R.lens.2 h1 fun i hi => by have:=h2 i (by omega); omega
theorem IsStablePairing_ok {n1 n2 : Option Bool} (x : List (List Int)) (l : List Int) (R : Rm x) (hp : pairB x.length l = true) :
  CallOk Try.prog 39 [.s n1 (rr x),.s n2 (ii l)] [(0,.b (stB x l))]:=by
 obtain ⟨code0,hcd1,hcd2⟩:=chk_impl_IsStablePairing; refine callOk_of Try.func39 hcd1 mo Try.call39 (rs:=[4]) (by kernel_rfl) hcd2 (by rw [Try.ntmps39]; simp) (by simp) (by decide) ?_; unfold C_impl_IsStablePairing K_impl_IsStablePairing; simp (maxSteps:=2000000) only [go_sem,Nat.reduceBEq,Nat.reduceAdd,Nat.reduceMul,Nat.reduceMod,Nat.reduceLT,Nat.reduceDiv,Nat.reduceSub,Nat.reduceLeDiff,Int.reduceToNat,Int.reduceLT,Int.reduceLE,reduceCtorEq]
 refine ⟨_,RoomsOk_ok x R,?_⟩; simp (maxSteps:=2000000) only [go_sem,Nat.reduceBEq,Nat.reduceAdd,Nat.reduceMul,Nat.reduceMod,Nat.reduceLT,Nat.reduceDiv,Nat.reduceSub,Nat.reduceLeDiff,Int.reduceToNat,Int.reduceLT,Int.reduceLE,reduceCtorEq]
 refine ⟨_,IsPairing_ok x.length l R.ev hp,?_⟩; simp (maxSteps:=2000000) only [go_sem,Nat.reduceBEq,Nat.reduceAdd,Nat.reduceMul,Nat.reduceMod,Nat.reduceLT,Nat.reduceDiv,Nat.reduceSub,Nat.reduceLeDiff,Int.reduceToNat,Int.reduceLT,Int.reduceLE,reduceCtorEq]
 refine ⟨_,blocks_of x l R hp,?_⟩; simp (maxSteps:=2000000) only [go_sem,Nat.reduceBEq,Nat.reduceAdd,Nat.reduceMul,Nat.reduceMod,Nat.reduceLT,Nat.reduceDiv,Nat.reduceSub,Nat.reduceLeDiff,Int.reduceToNat,Int.reduceLT,Int.reduceLE,reduceCtorEq]
 rfl
theorem BlockingRooms_ok {n1 n2 : Option Bool} (x : List (List Int)) (l : List Int) (R : Rm x) (hp : pairB x.length l = true) :
  CallOk Try.prog 40 [.s n1 (rr x),.s n2 (ii l)] [(0,.own 1 none (rr (rbL x l x.length x.length)))]:=by
 obtain ⟨code0,hcd1,hcd2⟩:=chk_impl_BlockingRooms; refine callOk_of Try.func40 hcd1 mo Try.call40 (rs:=[4]) (by kernel_rfl) hcd2 (by rw [Try.ntmps40]; simp) (by simp) (by decide) ?_; unfold C_impl_BlockingRooms K_impl_BlockingRooms; simp (maxSteps:=2000000) only [go_sem,Nat.reduceBEq,Nat.reduceAdd,Nat.reduceMul,Nat.reduceMod,Nat.reduceLT,Nat.reduceDiv,Nat.reduceSub,Nat.reduceLeDiff,Int.reduceToNat,Int.reduceLT,Int.reduceLE,reduceCtorEq]
 refine ⟨_,RoomsOk_ok x R,?_⟩; simp (maxSteps:=2000000) only [go_sem,Nat.reduceBEq,Nat.reduceAdd,Nat.reduceMul,Nat.reduceMod,Nat.reduceLT,Nat.reduceDiv,Nat.reduceSub,Nat.reduceLeDiff,Int.reduceToNat,Int.reduceLT,Int.reduceLE,reduceCtorEq]
 refine ⟨_,IsPairing_ok x.length l R.ev hp,?_⟩; simp (maxSteps:=2000000) only [go_sem,Nat.reduceBEq,Nat.reduceAdd,Nat.reduceMul,Nat.reduceMod,Nat.reduceLT,Nat.reduceDiv,Nat.reduceSub,Nat.reduceLeDiff,Int.reduceToNat,Int.reduceLT,Int.reduceLE,reduceCtorEq]
 refine ⟨_,blocks_of x l R hp,?_⟩; simp (maxSteps:=2000000) only [go_sem,Nat.reduceBEq,Nat.reduceAdd,Nat.reduceMul,Nat.reduceMod,Nat.reduceLT,Nat.reduceDiv,Nat.reduceSub,Nat.reduceLeDiff,Int.reduceToNat,Int.reduceLT,Int.reduceLE,reduceCtorEq]
theorem PP_pair {n : Nat} (he : n = 2 ∨ n = 4 ∨ n = 6) : ∀ l ∈ PP n, pairB n l = true := by
 have h : ((PP n).all fun l => pairB n l) = true := by
  rcases he with rfl | rfl | rfl
  ·kernel_rfl
  ·kernel_rfl
  ·kernel_rfl
 exact fun l hl => List.all_eq_true.1 h l hl
theorem PP_len {n : Nat} (he : n = 2 ∨ n = 4 ∨ n = 6) : 1 ≤ (PP n).length ∧ (PP n).length ≤ 15 := by
 rcases he with rfl | rfl | rfl
 ·rw [PP2]; decide
 ·rw [PP4]; decide
 ·rw [PP6]; decide
def stK (x:List (List Int)) (k:Nat):List (List Int):=((PP x.length).take k).filter (stB x)
def stF (x:List (List Int)):List (List Int):=(PP x.length).filter (stB x)
theorem stK_s {x : List (List Int)} {k : Nat} (hk : k < (PP x.length).length) : stK x (k + 1) = stK x k ++ if stB x ((PP x.length).getD k []) = true then [(PP x.length).getD k []] else [] := by
 simp only [stK]
 rw [take_getD [] hk,List.filter_append]
 congr 1
 cases h:stB x ((PP x.length).getD k []) <;> simp [-List.getD_eq_getElem?_getD,h]
theorem StablePairings_ok {n1 : Option Bool} (x : List (List Int)) (R : Rm x) : CallOk Try.prog 35 [.s n1 (rr x)] [(0, .own 0 none (rr (stF x)))] := by
 have he:=R.ev
 obtain ⟨code0,hcd1,hcd2⟩:=chk_impl_StablePairings; refine callOk_of Try.func35 hcd1 mo Try.call35 (rs:=[2]) (by kernel_rfl) hcd2 (by rw [Try.ntmps35]; simp) (by simp) (by decide) ?_; unfold C_impl_StablePairings K_impl_StablePairings; simp (maxSteps:=2000000) only [go_sem,Nat.reduceBEq,Nat.reduceAdd,Nat.reduceMul,Nat.reduceMod,Nat.reduceLT,Nat.reduceDiv,Nat.reduceSub,Nat.reduceLeDiff,Int.reduceToNat,Int.reduceLT,Int.reduceLE,reduceCtorEq]
 refine ⟨_,RoomsOk_ok x R,?_⟩; simp (maxSteps:=2000000) only [go_sem,Nat.reduceBEq,Nat.reduceAdd,Nat.reduceMul,Nat.reduceMod,Nat.reduceLT,Nat.reduceDiv,Nat.reduceSub,Nat.reduceLeDiff,Int.reduceToNat,Int.reduceLT,Int.reduceLE,reduceCtorEq]
 refine ⟨_,AllPairings_ok x.length he,?_⟩; simp (maxSteps:=2000000) only [go_sem,Nat.reduceBEq,Nat.reduceAdd,Nat.reduceMul,Nat.reduceMod,Nat.reduceLT,Nat.reduceDiv,Nat.reduceSub,Nat.reduceLeDiff,Int.reduceToNat,Int.reduceLT,Int.reduceLE,reduceCtorEq]
 have hP:=PP_len he
 have hS:=fun k => (show (stK x k).length ≤ (PP x.length).length from Nat.le_trans (List.length_filter_le _ _) (by rw [List.length_take]; omega))
 refine loopN (PP x.length).length (fun k => [(0,.t .arg (.s n1 (rr x))),(3,.own 0 none (rr (stK x k))),(11,.t .fr (.s none (rr (PP x.length)))),(12,.i (PP x.length).length),(13,.i (k:Nat))]) (fun _ => True) ⟨trivial,by simp (maxSteps:=2000000) only [go_sem,Nat.reduceBEq,Nat.reduceAdd,Nat.reduceMul,Nat.reduceMod,Nat.reduceLT,Nat.reduceDiv,Nat.reduceSub,Nat.reduceLeDiff,Int.reduceToNat,Int.reduceLT,Int.reduceLE,reduceCtorEq]; simp [stK,rr,T.leL]⟩ fun k hk _ => ?_
 have hSk:=hS k
 simp (maxSteps:=2000000) only [go_sem,Nat.reduceBEq,Nat.reduceAdd,Nat.reduceMul,Nat.reduceMod,Nat.reduceLT,Nat.reduceDiv,Nat.reduceSub,Nat.reduceLeDiff,Int.reduceToNat,Int.reduceLT,Int.reduceLE,reduceCtorEq]
 refine ⟨fun hlt => ?_, fun hge => ?_⟩
 ·have hk':k < (PP x.length).length:=by omega
  refine ⟨by omega,hk',hk',?_⟩
  have hp:=PP_pair he _ (getD_mem (d:=[]) hk')
  refine ⟨_,blocks_of x _ R hp,?_⟩; simp (maxSteps:=2000000) only [go_sem,Nat.reduceBEq,Nat.reduceAdd,Nat.reduceMul,Nat.reduceMod,Nat.reduceLT,Nat.reduceDiv,Nat.reduceSub,Nat.reduceLeDiff,Int.reduceToNat,Int.reduceLT,Int.reduceLE,reduceCtorEq]
  exact ⟨fun h => ⟨by omega,inR_of (by omega) (by omega),hk',by rw [stK_s hk',if_pos (show stB x ((PP x.length).getD k []) = true from decide_eq_true h)],by simp⟩,fun h => ⟨inR_of (by omega) (by omega),hk',by rw [stK_s hk',if_neg (by unfold stB; rw [decide_eq_false h]; simp),List.append_nil],by simp⟩⟩
 ·have:k = (PP x.length).length:=by omega
  subst this
  unfold stK stF
  rw [List.take_length]
theorem stF_len {x:List (List Int)} (R:Rm x):(stF x).length ≤ 15:=Nat.le_trans (List.length_filter_le _ _) (PP_len R.ev).2
theorem FirstPairing_ok {n1 : Option Bool} (x : List (List Int)) (R : Rm x) (h : 0 < (stF x).length) : CallOk Try.prog 36 [.s n1 (rr x)] [(0, .tp 2), (100000, .t .fr (.s none (ii ((stF x).getD 0 [])))), (101000, .b true)] := by
 obtain ⟨code0,hcd1,hcd2⟩:=chk_impl_FirstPairing; refine callOk_of Try.func36 hcd1 mo Try.call36 (rs:=[2,3]) (by kernel_rfl) hcd2 (by rw [Try.ntmps36]; simp) (by simp) (by decide) ?_; unfold C_impl_FirstPairing K_impl_FirstPairing; simp (maxSteps:=2000000) only [go_sem,Nat.reduceBEq,Nat.reduceAdd,Nat.reduceMul,Nat.reduceMod,Nat.reduceLT,Nat.reduceDiv,Nat.reduceSub,Nat.reduceLeDiff,Int.reduceToNat,Int.reduceLT,Int.reduceLE,reduceCtorEq]
 refine ⟨_,StablePairings_ok x R,?_⟩; simp (maxSteps:=2000000) only [go_sem,Nat.reduceBEq,Nat.reduceAdd,Nat.reduceMul,Nat.reduceMod,Nat.reduceLT,Nat.reduceDiv,Nat.reduceSub,Nat.reduceLeDiff,Int.reduceToNat,Int.reduceLT,Int.reduceLE,reduceCtorEq]
 exact ⟨fun h0 => by omega,fun _ => ⟨h,h,by omega⟩⟩
theorem FirstPairing_no {n1 : Option Bool} (x : List (List Int)) (R : Rm x) (h : stF x = []) : CallOk Try.prog 36 [.s n1 (rr x)] [(0, .tp 2), (100000, .own 1 none []), (101000, .b false)] := by
 obtain ⟨code0,hcd1,hcd2⟩:=chk_impl_FirstPairing; refine callOk_of Try.func36 hcd1 mo Try.call36 (rs:=[2,3]) (by kernel_rfl) hcd2 (by rw [Try.ntmps36]; simp) (by simp) (by decide) ?_; unfold C_impl_FirstPairing K_impl_FirstPairing; simp (maxSteps:=2000000) only [go_sem,Nat.reduceBEq,Nat.reduceAdd,Nat.reduceMul,Nat.reduceMod,Nat.reduceLT,Nat.reduceDiv,Nat.reduceSub,Nat.reduceLeDiff,Int.reduceToNat,Int.reduceLT,Int.reduceLE,reduceCtorEq]
 refine ⟨_,StablePairings_ok x R,?_⟩; simp (maxSteps:=2000000) only [go_sem,Nat.reduceBEq,Nat.reduceAdd,Nat.reduceMul,Nat.reduceMod,Nat.reduceLT,Nat.reduceDiv,Nat.reduceSub,Nat.reduceLeDiff,Int.reduceToNat,Int.reduceLT,Int.reduceLE,reduceCtorEq]
 rw [h]
 exact ⟨fun _ => by omega,fun h0 => absurd rfl h0⟩
def fewK (x : List (List Int)) : Nat → Int
 | 0 => x.length * x.length
 | k + 1 => min (fewK x k) (rbL x ((PP x.length).getD k []) x.length x.length).length
theorem few_le {x : List (List Int)} : ∀ {k : Nat} (j : Nat), j < k → fewK x k ≤ (rbL x ((PP x.length).getD j []) x.length x.length).length
 | 0,j,h => by omega
 | k + 1, j, h => by
  rw [fewK]
  by_cases e : j = k
  ·subst e; omega
  ·have:=few_le (x:=x) (k:=k) j (by omega)
   omega
theorem few_ex {x : List (List Int)} : ∀ {k : Nat}, (fewK x k = x.length * x.length) ∨ ∃ j, j < k ∧ fewK x k = (rbL x ((PP x.length).getD j []) x.length x.length).length
 | 0 => .inl rfl
 | k + 1 => by
  rw [fewK]
  by_cases c : fewK x k ≤ (rbL x ((PP x.length).getD k []) x.length x.length).length
  ·rw [Int.min_eq_left c]
   rcases few_ex (x := x) (k := k) with h | ⟨j, hj, h⟩
   ·exact .inl h
   ·exact .inr ⟨j,by omega,h⟩
  ·rw [Int.min_eq_right (by omega)]
   exact .inr ⟨k,by omega,rfl⟩
theorem few_0 {x : List (List Int)} : ∀ {k : Nat}, 0 ≤ fewK x k ∧ fewK x k ≤ x.length * x.length
 | 0 => ⟨Int.mul_nonneg (by omega) (by omega),Int.le_refl _⟩
 | k + 1 => by
  have:=few_0 (x:=x) (k:=k)
  rw [fewK]; omega
theorem FewestBlocks_ok {n1 : Option Bool} (x : List (List Int)) (R : Rm x) : CallOk Try.prog 38 [.s n1 (rr x)] [(0, .i (fewK x (PP x.length).length))] := by
 have he:=R.ev
 have hP:=PP_len he
 have h36 : 0 ≤ (x.length : Int) * x.length ∧ (x.length : Int) * x.length ≤ 36 := by
  rcases he with e | e | e <;> rw [e] <;> omega
 obtain ⟨code0,hcd1,hcd2⟩:=chk_impl_FewestBlocks; refine callOk_of Try.func38 hcd1 mo Try.call38 (rs:=[2]) (by kernel_rfl) hcd2 (by rw [Try.ntmps38]; simp) (by simp) (by decide) ?_; unfold C_impl_FewestBlocks K_impl_FewestBlocks; simp (maxSteps:=2000000) only [go_sem,Nat.reduceBEq,Nat.reduceAdd,Nat.reduceMul,Nat.reduceMod,Nat.reduceLT,Nat.reduceDiv,Nat.reduceSub,Nat.reduceLeDiff,Int.reduceToNat,Int.reduceLT,Int.reduceLE,reduceCtorEq]
 refine ⟨_,RoomsOk_ok x R,?_⟩; simp (maxSteps:=2000000) only [go_sem,Nat.reduceBEq,Nat.reduceAdd,Nat.reduceMul,Nat.reduceMod,Nat.reduceLT,Nat.reduceDiv,Nat.reduceSub,Nat.reduceLeDiff,Int.reduceToNat,Int.reduceLT,Int.reduceLE,reduceCtorEq]
 refine ⟨inR_of (by omega) (by omega),?_⟩
 refine ⟨_,AllPairings_ok x.length he,?_⟩; simp (maxSteps:=2000000) only [go_sem,Nat.reduceBEq,Nat.reduceAdd,Nat.reduceMul,Nat.reduceMod,Nat.reduceLT,Nat.reduceDiv,Nat.reduceSub,Nat.reduceLeDiff,Int.reduceToNat,Int.reduceLT,Int.reduceLE,reduceCtorEq]
 refine loopN (PP x.length).length (fun k => [(0,.t .arg (.s n1 (rr x))),(3,.i (fewK x k)),(16,.t .fr (.s none (rr (PP x.length)))),(17,.i (PP x.length).length),(18,.i (k:Nat))]) (fun _ => True) ⟨trivial,by simp (maxSteps:=2000000) only [go_sem,Nat.reduceBEq,Nat.reduceAdd,Nat.reduceMul,Nat.reduceMod,Nat.reduceLT,Nat.reduceDiv,Nat.reduceSub,Nat.reduceLeDiff,Int.reduceToNat,Int.reduceLT,Int.reduceLE,reduceCtorEq]; simp [fewK]⟩ fun k hk _ => ?_
 simp (maxSteps:=2000000) only [go_sem,Nat.reduceBEq,Nat.reduceAdd,Nat.reduceMul,Nat.reduceMod,Nat.reduceLT,Nat.reduceDiv,Nat.reduceSub,Nat.reduceLeDiff,Int.reduceToNat,Int.reduceLT,Int.reduceLE,reduceCtorEq]
 refine ⟨fun hlt => ?_, fun hge => ?_⟩
 ·have hk':k < (PP x.length).length:=by omega
  refine ⟨by omega,hk',hk',?_⟩
  have hp:=PP_pair he _ (getD_mem (d:=[]) hk')
  refine ⟨_,blocks_of x _ R hp,?_⟩; simp (maxSteps:=2000000) only [go_sem,Nat.reduceBEq,Nat.reduceAdd,Nat.reduceMul,Nat.reduceMod,Nat.reduceLT,Nat.reduceDiv,Nat.reduceSub,Nat.reduceLeDiff,Int.reduceToNat,Int.reduceLT,Int.reduceLE,reduceCtorEq]
  exact ⟨inR_of (by omega) (by omega),hk',rfl,by simp⟩
 ·have:k = (PP x.length).length:=by omega
  subst this
  rfl
theorem few_zero {x : List (List Int)} (R : Rm x) : fewK x (PP x.length).length = 0 ↔ 0 < (stF x).length := by
 have he:=R.ev
 constructor
 ·intro h
  rcases few_ex (x := x) (k := (PP x.length).length) with e | ⟨j, hj, e⟩
  ·rcases he with q | q | q <;> rw [h,q] at e <;> omega
  ·refine List.length_pos_of_mem (a:=(PP x.length).getD j []) (List.mem_filter.2 ⟨getD_mem hj,?_⟩)
   unfold stB
   rw [decide_eq_true_eq]; omega
 ·intro h
  obtain ⟨l,hl⟩:=List.exists_mem_of_length_pos h
  obtain ⟨h1,h2⟩:=List.mem_filter.1 hl
  obtain ⟨j,hj,rfl⟩:=mem_getD [] h1
  have:=few_le (x:=x) j hj
  have:=(few_0 (x:=x) (k:=(PP x.length).length)).1
  unfold stB at h2
  rw [decide_eq_true_eq] at h2
  omega
end Go.Proofs.Ytllcbempbdibhaa
