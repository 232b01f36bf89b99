import Derived.Test.Ytlalkldjpniakaaqu40
namespace Go.Proofs.Ytlalkldjpniakaa.P
open Go.RowKit Go.Proofs.YtlalkldjpniakaaW.PrintWords Go.Proofs.YtlalkldjpniakaaW.PrintLast Go.Proofs.YtlalkldjpniakaaW.PrintMore
attribute [local go_sem] zbr zbs zch zci zbk zbl zbt zbu -- for this text's walks alone
set_option linter.unusedVariables false
set_option linter.unusedSimpArgs false

mutual
def laws_FnQueues.j0:Nat→List (S34)→List (S34)→Bool→List (S34)→ByteArray→List (S34)→Bool→Int→List (S34)→Bool→ByteArray→Int→Int→List Int→ByteArray→Int→Int→List Int→Option (Bool)
 | 0,_,_,_,_,_,_,_,_,_,_,_,_,_,_,_,_,_,_=>none
 | k+1,x3,x5,x6,x9,x10,x12,x13,x18,x19,x138,x1003000,x1003001,x1003002,x1003003,x1026000,x1026001,x1026002,x1026003=>if x138=true then(none) else(laws_FnQueues.l0 k x3 x5 x6 x9 x10 x12 x13 x18 x19 0 x1003000 x1003001 x1003002 x1003003 x1026000 x1026001 x1026002 x1026003)
def laws_FnQueues.l0:Nat→List (S34)→List (S34)→Bool→List (S34)→ByteArray→List (S34)→Bool→Int→List (S34)→Int→ByteArray→Int→Int→List Int→ByteArray→Int→Int→List Int→Option (Bool)
 | 0,_,_,_,_,_,_,_,_,_,_,_,_,_,_,_,_,_,_=>none
 | k+1,x3,x5,x6,x9,x10,x12,x13,x18,x19,x24,x1003000,x1003001,x1003002,x1003003,x1026000,x1026001,x1026002,x1026003=>if x24<(x19.length:Int) then(if 0≤x24 then(if((rd_T34 x19 x24).f2)<x18 then(none) else(laws_FnQueues.l0 k x3 x5 x6 x9 x10 x12 x13 x18 x19 (wrap64 (x24+1)) x1003000 x1003001 x1003002 x1003003 x1026000 x1026001 x1026002 x1026003)) else(none)) else((impl_Of.f k x9 x10).bind fun t1072=>(if(x13 != (decide (t1072>0)))=true then(none) else(if x13=true then(if x1026000.toList=x10.toList then((impl_Of.f k x12 x10).bind fun t1073=>((impl_Of.f k x9 x10).bind fun t1074=>(laws_FnQueues.j2 k x3 x5 x6 (t1073 != (wrap64 (t1074 - 1))) x1003000 x1003001 x1003002 x1003003))) else(none)) else(laws_FnQueues.j2 k x3 x5 x6 false x1003000 x1003001 x1003002 x1003003))))
def laws_FnQueues.j2:Nat→List (S34)→List (S34)→Bool→Bool→ByteArray→Int→Int→List Int→Option (Bool)
 | 0,_,_,_,_,_,_,_,_=>none
 | k+1,x3,x5,x6,x176,x1003000,x1003001,x1003002,x1003003=>if x176=true then(none) else(if x6=true then(laws_FnQueues.l1 k x5 0 0 x1003000 x1003001 x1003002 x1003003) else((laws_sameItems.f k x5 x3).bind fun t1075=>(some t1075)))
def laws_FnQueues.l1:Nat→List (S34)→Int→Int→ByteArray→Int→Int→List Int→Option (Bool)
 | 0,_,_,_,_,_,_,_=>none
 | k+1,x5,x25,x26,x1003000,x1003001,x1003002,x1003003=>if x26<(x5.length:Int) then(if x1003001>0 then(if 0≤x26 then(if((rd_T34 x5 x26).f0).toList=x1003000.toList then(if((rd_T34 x5 x26).f1)=x1003001 then(laws_FnQueues.l1 k x5 (wrap64 (x25+1)) (wrap64 (x26+1)) x1003000 x1003001 x1003002 x1003003) else(laws_FnQueues.l1 k x5 x25 (wrap64 (x26+1)) x1003000 x1003001 x1003002 x1003003)) else(laws_FnQueues.l1 k x5 x25 (wrap64 (x26+1)) x1003000 x1003001 x1003002 x1003003)) else(none)) else(laws_FnQueues.l1 k x5 x25 (wrap64 (x26+1)) x1003000 x1003001 x1003002 x1003003)) else((impl_QueueOk.f k x5).bind fun t1078=>(if t1078=true then(if 0≤(wrap64 ((x5.length:Int) - 1)) then(if(wrap64 ((x5.length:Int) - 1))<(x5.length:Int) then((laws_sameItem.f ((rd_T34 x5 (wrap64 ((x5.length:Int) - 1))).f0) ((rd_T34 x5 (wrap64 ((x5.length:Int) - 1))).f1) ((rd_T34 x5 (wrap64 ((x5.length:Int) - 1))).f2) ((rd_T34 x5 (wrap64 ((x5.length:Int) - 1))).f3) x1003000 x1003001 x1003002 x1003003).bind fun t1080=>(if t1080=true then(if x1003001=0 then(some true) else(some (x25==1))) else(none))) else(none)) else(none)) else(none)))
end
def laws_FnQueues.f (k:Nat) (l0:List Int):Option (Bool):=(laws_big.f l0).bind fun t992=>(if t992=true then(some true) else((spec_DrawPut.f k l0).bind fun bt993=>((impl_Put.f k bt993.1 bt993.2.1 bt993.2.2.1 bt993.2.2.2.1 bt993.2.2.2.2).bind fun bt1003=>((spec_Put.f k bt993.1 bt993.2.1 bt993.2.2.1 bt993.2.2.2.1 bt993.2.2.2.2).bind fun bt1007=>((spec_DrawTake.f k l0).bind fun bt1011=>((impl_Take.f k bt1011.1 bt1011.2).bind fun bt1015=>((spec_Take.f k bt1011.1 bt1011.2).bind fun bt1026=>((spec_DrawDue.f k l0).bind fun bt1037=>((impl_Due.f k bt1037.1 bt1037.2).bind fun t1041=>((spec_DrawOf.f k l0).bind fun bt1044=>((spec_DrawQueueOk.f k l0).bind fun t1048=>((spec_DrawItemOk.f k l0).bind fun bt1051=>(if(bt1003.2 != bt1007.2)=true then(none) else((laws_sameItems.f k bt1003.1 bt1007.1).bind fun t1058=>(if t1058=true then(if(bt1015.2.2.2.2.2 != bt1026.2.2.2.2.2)=true then(none) else((laws_sameItem.f bt1015.1 bt1015.2.1 bt1015.2.2.1 bt1015.2.2.2.1 bt1026.1 bt1026.2.1 bt1026.2.2.1 bt1026.2.2.2.1).bind fun t1059=>(if t1059=true then((laws_sameItems.f k bt1015.2.2.2.2.1 bt1026.2.2.2.2.1).bind fun t1060=>(if t1060=true then((spec_Due.f k bt1037.1 bt1037.2).bind fun t1061=>((laws_sameItems.f k t1041 t1061).bind fun t1064=>(if t1064=true then((impl_Of.f k bt1044.1 bt1044.2).bind fun t1065=>((spec_Of.f k bt1044.1 bt1044.2).bind fun t1066=>(if t1065=t1066 then((impl_QueueOk.f k t1048).bind fun t1067=>((spec_QueueOk.f k t1048).bind fun t1068=>(if(t1067 != t1068)=true then(none) else((impl_ItemOk.f k bt1051.1 bt1051.2.1 bt1051.2.2.1 bt1051.2.2.2).bind fun t1069=>((spec_ItemOk.f k bt1051.1 bt1051.2.1 bt1051.2.2.1 bt1051.2.2.2).bind fun t1070=>(laws_FnQueues.j0 k bt993.1 bt1003.1 bt1003.2 bt1011.1 bt1011.2 bt1015.2.2.2.2.1 bt1015.2.2.2.2.2 bt1037.2 t1041 (t1069 != t1070) bt993.2.1 bt993.2.2.1 bt993.2.2.2.1 bt993.2.2.2.2 bt1015.1 bt1015.2.1 bt1015.2.2.1 bt1015.2.2.2.1)))))) else(none)))) else(none)))) else(none))) else(none)))) else(none))))))))))))))))
theorem laws_FnQueues.mono_l:∀ k,(∀ y0 y1 y2 y3 y4 y5 y6 y7 y8 y9 y10 y11 y12 y13 y14 y15 y16 y17,LeO (laws_FnQueues.j0 k y0 y1 y2 y3 y4 y5 y6 y7 y8 y9 y10 y11 y12 y13 y14 y15 y16 y17) (laws_FnQueues.j0 (k+1) y0 y1 y2 y3 y4 y5 y6 y7 y8 y9 y10 y11 y12 y13 y14 y15 y16 y17))∧(∀ y0 y1 y2 y3 y4 y5 y6 y7 y8 y9 y10 y11 y12 y13 y14 y15 y16 y17,LeO (laws_FnQueues.l0 k y0 y1 y2 y3 y4 y5 y6 y7 y8 y9 y10 y11 y12 y13 y14 y15 y16 y17) (laws_FnQueues.l0 (k+1) y0 y1 y2 y3 y4 y5 y6 y7 y8 y9 y10 y11 y12 y13 y14 y15 y16 y17))∧(∀ y0 y1 y2 y3 y4 y5 y6 y7,LeO (laws_FnQueues.j2 k y0 y1 y2 y3 y4 y5 y6 y7) (laws_FnQueues.j2 (k+1) y0 y1 y2 y3 y4 y5 y6 y7))∧(∀ y0 y1 y2 y3 y4 y5 y6,LeO (laws_FnQueues.l1 k y0 y1 y2 y3 y4 y5 y6) (laws_FnQueues.l1 (k+1) y0 y1 y2 y3 y4 y5 y6))
 | 0=>⟨fun _ _ _ _ _ _ _ _ _ _ _ _ _ _ _ _ _ _ r h=>by simp [laws_FnQueues.j0] at h,fun _ _ _ _ _ _ _ _ _ _ _ _ _ _ _ _ _ _ r h=>by simp [laws_FnQueues.l0] at h,fun _ _ _ _ _ _ _ _ r h=>by simp [laws_FnQueues.j2] at h,fun _ _ _ _ _ _ _ r h=>by simp [laws_FnQueues.l1] at h⟩
 | k+1=>by
  obtain⟨ih0,ih1,ih2,ih3⟩:=laws_FnQueues.mono_l k
  refine⟨?_,?_,?_,?_⟩
  ·intro y0 y1 y2 y3 y4 y5 y6 y7 y8 y9 y10 y11 y12 y13 y14 y15 y16 y17
   unfold laws_FnQueues.j0
   repeat' first
   | (with_reducible exact ih0 _ _ _ _ _ _ _ _ _ _ _ _ _ _ _ _ _ _)
   | (with_reducible exact ih1 _ _ _ _ _ _ _ _ _ _ _ _ _ _ _ _ _ _)
   | (with_reducible exact ih2 _ _ _ _ _ _ _ _)
   | (with_reducible exact ih3 _ _ _ _ _ _ _)
   | (with_reducible exact impl_Due.mono _ _ _)
   | (with_reducible exact impl_ItemOk.mono _ _ _ _ _)
   | (with_reducible exact impl_Of.mono _ _ _)
   | (with_reducible exact impl_Put.mono _ _ _ _ _ _)
   | (with_reducible exact impl_QueueOk.mono _ _)
   | (with_reducible exact impl_Take.mono _ _ _)
   | (with_reducible exact laws_sameItems.mono _ _ _)
   | (with_reducible exact spec_DrawDue.mono _ _)
   | (with_reducible exact spec_DrawItemOk.mono _ _)
   | (with_reducible exact spec_DrawOf.mono _ _)
   | (with_reducible exact spec_DrawPut.mono _ _)
   | (with_reducible exact spec_DrawQueueOk.mono _ _)
   | (with_reducible exact spec_DrawTake.mono _ _)
   | (with_reducible exact spec_Due.mono _ _ _)
   | (with_reducible exact spec_ItemOk.mono _ _ _ _ _)
   | (with_reducible exact spec_Of.mono _ _ _)
   | (with_reducible exact spec_Put.mono _ _ _ _ _ _)
   | (with_reducible exact spec_QueueOk.mono _ _)
   | (with_reducible exact spec_Take.mono _ _ _)
   | (with_reducible exact LeO.refl _)
   | (with_reducible exact LeO.none _)
   | (with_reducible refine LeO.ite ?_ ?_)
   | (with_reducible refine LeO.bind ?_ (fun _=>?_))
   | exact ih0 _ _ _ _ _ _ _ _ _ _ _ _ _ _ _ _ _ _
   | exact ih1 _ _ _ _ _ _ _ _ _ _ _ _ _ _ _ _ _ _
   | exact ih2 _ _ _ _ _ _ _ _
   | exact ih3 _ _ _ _ _ _ _
  ·intro y0 y1 y2 y3 y4 y5 y6 y7 y8 y9 y10 y11 y12 y13 y14 y15 y16 y17
   unfold laws_FnQueues.l0
   repeat' first
   | (with_reducible exact ih0 _ _ _ _ _ _ _ _ _ _ _ _ _ _ _ _ _ _)
   | (with_reducible exact ih1 _ _ _ _ _ _ _ _ _ _ _ _ _ _ _ _ _ _)
   | (with_reducible exact ih2 _ _ _ _ _ _ _ _)
   | (with_reducible exact ih3 _ _ _ _ _ _ _)
   | (with_reducible exact impl_Due.mono _ _ _)
   | (with_reducible exact impl_ItemOk.mono _ _ _ _ _)
   | (with_reducible exact impl_Of.mono _ _ _)
   | (with_reducible exact impl_Put.mono _ _ _ _ _ _)
   | (with_reducible exact impl_QueueOk.mono _ _)
   | (with_reducible exact impl_Take.mono _ _ _)
   | (with_reducible exact laws_sameItems.mono _ _ _)
   | (with_reducible exact spec_DrawDue.mono _ _)
   | (with_reducible exact spec_DrawItemOk.mono _ _)
   | (with_reducible exact spec_DrawOf.mono _ _)
   | (with_reducible exact spec_DrawPut.mono _ _)
   | (with_reducible exact spec_DrawQueueOk.mono _ _)
   | (with_reducible exact spec_DrawTake.mono _ _)
   | (with_reducible exact spec_Due.mono _ _ _)
   | (with_reducible exact spec_ItemOk.mono _ _ _ _ _)
   | (with_reducible exact spec_Of.mono _ _ _)
   | (with_reducible exact spec_Put.mono _ _ _ _ _ _)
   | (with_reducible exact spec_QueueOk.mono _ _)
   | (with_reducible exact spec_Take.mono _ _ _)
   | (with_reducible exact LeO.refl _)
   | (with_reducible exact LeO.none _)
   | (with_reducible refine LeO.ite ?_ ?_)
   | (with_reducible refine LeO.bind ?_ (fun _=>?_))
   | exact ih0 _ _ _ _ _ _ _ _ _ _ _ _ _ _ _ _ _ _
   | exact ih1 _ _ _ _ _ _ _ _ _ _ _ _ _ _ _ _ _ _
   | exact ih2 _ _ _ _ _ _ _ _
   | exact ih3 _ _ _ _ _ _ _
  ·intro y0 y1 y2 y3 y4 y5 y6 y7
   unfold laws_FnQueues.j2
   repeat' first
   | (with_reducible exact ih0 _ _ _ _ _ _ _ _ _ _ _ _ _ _ _ _ _ _)
   | (with_reducible exact ih1 _ _ _ _ _ _ _ _ _ _ _ _ _ _ _ _ _ _)
   | (with_reducible exact ih2 _ _ _ _ _ _ _ _)
   | (with_reducible exact ih3 _ _ _ _ _ _ _)
   | (with_reducible exact impl_Due.mono _ _ _)
   | (with_reducible exact impl_ItemOk.mono _ _ _ _ _)
   | (with_reducible exact impl_Of.mono _ _ _)
   | (with_reducible exact impl_Put.mono _ _ _ _ _ _)
   | (with_reducible exact impl_QueueOk.mono _ _)
   | (with_reducible exact impl_Take.mono _ _ _)
   | (with_reducible exact laws_sameItems.mono _ _ _)
   | (with_reducible exact spec_DrawDue.mono _ _)
   | (with_reducible exact spec_DrawItemOk.mono _ _)
   | (with_reducible exact spec_DrawOf.mono _ _)
   | (with_reducible exact spec_DrawPut.mono _ _)
   | (with_reducible exact spec_DrawQueueOk.mono _ _)
   | (with_reducible exact spec_DrawTake.mono _ _)
   | (with_reducible exact spec_Due.mono _ _ _)
   | (with_reducible exact spec_ItemOk.mono _ _ _ _ _)
   | (with_reducible exact spec_Of.mono _ _ _)
   | (with_reducible exact spec_Put.mono _ _ _ _ _ _)
   | (with_reducible exact spec_QueueOk.mono _ _)
   | (with_reducible exact spec_Take.mono _ _ _)
   | (with_reducible exact LeO.refl _)
   | (with_reducible exact LeO.none _)
   | (with_reducible refine LeO.ite ?_ ?_)
   | (with_reducible refine LeO.bind ?_ (fun _=>?_))
   | exact ih0 _ _ _ _ _ _ _ _ _ _ _ _ _ _ _ _ _ _
   | exact ih1 _ _ _ _ _ _ _ _ _ _ _ _ _ _ _ _ _ _
   | exact ih2 _ _ _ _ _ _ _ _
   | exact ih3 _ _ _ _ _ _ _
  intro y0 y1 y2 y3 y4 y5 y6
  unfold laws_FnQueues.l1
  repeat' first
  | (with_reducible exact ih0 _ _ _ _ _ _ _ _ _ _ _ _ _ _ _ _ _ _)
  | (with_reducible exact ih1 _ _ _ _ _ _ _ _ _ _ _ _ _ _ _ _ _ _)
  | (with_reducible exact ih2 _ _ _ _ _ _ _ _)
  | (with_reducible exact ih3 _ _ _ _ _ _ _)
  | (with_reducible exact impl_Due.mono _ _ _)
  | (with_reducible exact impl_ItemOk.mono _ _ _ _ _)
  | (with_reducible exact impl_Of.mono _ _ _)
  | (with_reducible exact impl_Put.mono _ _ _ _ _ _)
  | (with_reducible exact impl_QueueOk.mono _ _)
  | (with_reducible exact impl_Take.mono _ _ _)
  | (with_reducible exact laws_sameItems.mono _ _ _)
  | (with_reducible exact spec_DrawDue.mono _ _)
  | (with_reducible exact spec_DrawItemOk.mono _ _)
  | (with_reducible exact spec_DrawOf.mono _ _)
  | (with_reducible exact spec_DrawPut.mono _ _)
  | (with_reducible exact spec_DrawQueueOk.mono _ _)
  | (with_reducible exact spec_DrawTake.mono _ _)
  | (with_reducible exact spec_Due.mono _ _ _)
  | (with_reducible exact spec_ItemOk.mono _ _ _ _ _)
  | (with_reducible exact spec_Of.mono _ _ _)
  | (with_reducible exact spec_Put.mono _ _ _ _ _ _)
  | (with_reducible exact spec_QueueOk.mono _ _)
  | (with_reducible exact spec_Take.mono _ _ _)
  | (with_reducible exact LeO.refl _)
  | (with_reducible exact LeO.none _)
  | (with_reducible refine LeO.ite ?_ ?_)
  | (with_reducible refine LeO.bind ?_ (fun _=>?_))
  | exact ih0 _ _ _ _ _ _ _ _ _ _ _ _ _ _ _ _ _ _
  | exact ih1 _ _ _ _ _ _ _ _ _ _ _ _ _ _ _ _ _ _
  | exact ih2 _ _ _ _ _ _ _ _
  | exact ih3 _ _ _ _ _ _ _
theorem laws_FnQueues.mono:∀ a0 k,LeO (laws_FnQueues.f k a0) (laws_FnQueues.f (k+1) a0):=by
 intro a0 k
 obtain⟨ih0,ih1,ih2,ih3⟩:=laws_FnQueues.mono_l k
 unfold laws_FnQueues.f
 repeat' first
   | (with_reducible exact ih0 _ _ _ _ _ _ _ _ _ _ _ _ _ _ _ _ _ _)
   | (with_reducible exact ih1 _ _ _ _ _ _ _ _ _ _ _ _ _ _ _ _ _ _)
   | (with_reducible exact ih2 _ _ _ _ _ _ _ _)
   | (with_reducible exact ih3 _ _ _ _ _ _ _)
   | (with_reducible exact impl_Due.mono _ _ _)
   | (with_reducible exact impl_ItemOk.mono _ _ _ _ _)
   | (with_reducible exact impl_Of.mono _ _ _)
   | (with_reducible exact impl_Put.mono _ _ _ _ _ _)
   | (with_reducible exact impl_QueueOk.mono _ _)
   | (with_reducible exact impl_Take.mono _ _ _)
   | (with_reducible exact laws_sameItems.mono _ _ _)
   | (with_reducible exact spec_DrawDue.mono _ _)
   | (with_reducible exact spec_DrawItemOk.mono _ _)
   | (with_reducible exact spec_DrawOf.mono _ _)
   | (with_reducible exact spec_DrawPut.mono _ _)
   | (with_reducible exact spec_DrawQueueOk.mono _ _)
   | (with_reducible exact spec_DrawTake.mono _ _)
   | (with_reducible exact spec_Due.mono _ _ _)
   | (with_reducible exact spec_ItemOk.mono _ _ _ _ _)
   | (with_reducible exact spec_Of.mono _ _ _)
   | (with_reducible exact spec_Put.mono _ _ _ _ _ _)
   | (with_reducible exact spec_QueueOk.mono _ _)
   | (with_reducible exact spec_Take.mono _ _ _)
   | (with_reducible exact LeO.refl _)
   | (with_reducible exact LeO.none _)
   | (with_reducible refine LeO.ite ?_ ?_)
   | (with_reducible refine LeO.bind ?_ (fun _=>?_))
   | exact ih0 _ _ _ _ _ _ _ _ _ _ _ _ _ _ _ _ _ _
   | exact ih1 _ _ _ _ _ _ _ _ _ _ _ _ _ _ _ _ _ _
   | exact ih2 _ _ _ _ _ _ _ _
   | exact ih3 _ _ _ _ _ _ _
def laws_FnQueues.T13:Bool×List (List Nat×List Nat):=(true,[([],[]),([],[]),([0,1],[0,1]),([2],[2]),([3],[3]),([3],[3]),([4,5,3,3],[3,4,5]),([6,3],[3,6]),([3,7],[3,7]),([8,6],[8]),([9],[9]),([9],[9]),([10,11,9],[9,10,11]),([9,12],[9,12]),([13,9],[13]),([14],[14]),([14],[14]),([15,16,14,14],[14,15,16]),([17,14],[14,17]),([14,18],[14,18]),([19,17],[19]),([20],[20]),([20],[20]),([21,22,20,20],[20,21,22]),([23,20],[20,23]),([20,24],[20,24]),([25,23],[25]),([26],[26]),([26],[26]),([26],[26]),([28,29,26,26],[26,28,29]),([27,30,30,26],[26,27,30]),([31,26],[26,31]),([26,32],[26,32]),([33,31],[33]),([34],[34]),([34],[34]),([35,36,34,34],[34,35,36]),([34],[34]),([34],[34]),([38,39,37,34],[34,38,39]),([37,40,34],[34,37,40]),([34,41],[34,41]),([42,40],[42]),([43],[43]),([44,43,43],[43,44]),([43],[43]),([46,45,43],[43,46]),([45,47,43],[43,45,47]),([43,48],[43,48]),([49,47],[49]),([50],[50]),([51,50,50],[50,51]),([50],[50]),([53,52,50],[50,53]),([52,54,50],[50,52,54]),([50,55],[50,55])])
def laws_FnQueues.B13:List Nat:=[0,0,3,7,15,15,63,127,255,511,1023,1023,4095,8191,16383,32767,32767,131071,262143,524287,1048575,2097151,2097151,8388607,16777215,33554431,67108863,134217727,134217727,134217727,939524095,2147483647,4294967295,8589934591,17179869183,34359738367,34359738367,137438953471,34359738367,34359738367,1099511627775,2199023255551,4398046511103,8796093022207,17592186044415,35184372088831,17592186044415,140737488355327,281474976710655,562949953421311,1125899906842623,2251799813685247,4503599627370495,2251799813685247,18014398509481983,36028797018963967,72057594037927935]
theorem laws_FnQueues.tab13:rtab .any (opsOf Try.f12 13)=laws_FnQueues.T13:=by kernel_rfl
theorem laws_FnQueues.bits13:waitsOk laws_FnQueues.T13.2 laws_FnQueues.B13=true:=by kernel_rfl
def laws_FnQueues.T28:Bool×List (List Nat×List Nat):=(true,[([],[]),([0],[0]),([1],[1]),([2],[2]),([3],[3]),([3],[3]),([4,5,3],[3,4,5]),([6,3],[3,6]),([7,3],[3,7]),([3],[3]),([9,3],[3,9]),([8,10,3],[3,8,10]),([3,11],[3,11]),([12,3],[12]),([13],[13]),([13],[13]),([14,15,13],[13,14,15]),([16,13],[13,16]),([17,13],[13,17]),([13],[13]),([19,13],[13,19]),([18,20,13],[13,18,20]),([13,21],[13,21])])
def laws_FnQueues.B28:List Nat:=[0,1,3,7,15,15,63,127,255,15,527,2047,4095,8191,16383,16383,65535,131071,262143,16383,540671,2097151,4194303]
theorem laws_FnQueues.tab28:rtab .any (opsOf Try.f12 28)=laws_FnQueues.T28:=by kernel_rfl
theorem laws_FnQueues.bits28:waitsOk laws_FnQueues.T28.2 laws_FnQueues.B28=true:=by kernel_rfl
def laws_FnQueues.T30:Bool×List (List Nat×List Nat):=(true,[([],[]),([0],[0]),([1,1],[1]),([2],[2]),([2],[2]),([4,2],[2,4]),([5,2],[2,5]),([3,6,2],[2,3,6]),([7,2],[2,7]),([2],[2]),([8,9,2,2],[2,8,9]),([2,10],[2,10]),([11,10],[11]),([12],[12]),([13,12],[12,13]),([14,12],[12,14]),([15,12,12],[12,15]),([16],[16]),([17,16],[16,17]),([16,18,12],[12,16,18]),([12,19],[12,19]),([20,16,0,1,2,3,4,5,6,7,8,9,10,11,12,13,14,15,16,17,18,19,20],[20])])
def laws_FnQueues.B30:List Nat:=[0,1,3,7,7,23,55,127,255,7,1023,2047,4095,8191,16383,32767,65535,131071,262143,524287,1048575,2097151]
theorem laws_FnQueues.tab30:rtab .any (opsOf Try.f12 30)=laws_FnQueues.T30:=by kernel_rfl
theorem laws_FnQueues.bits30:waitsOk laws_FnQueues.T30.2 laws_FnQueues.B30=true:=by kernel_rfl
theorem ld4 {o:Oper} {a:Act} {W:World} {p:Operand} {ad:Addr} {b0 b1 b2 b3:Value} (ho:o.op= .load 34 p) (hp:a.eval p= .pointer (some ad)) (h0:W.cell? ad=some b0) (h1:W.cell? ⟨ad.block,ad.off+1,none⟩=some b1) (h2:W.cell? ⟨ad.block,ad.off+2,none⟩=some b2) (h3:W.cell? ⟨ad.block,ad.off+3,none⟩=some b3):(execOp a.eval o).run Try.prog W= .ok (.value (.agg #[b0,b1,b2,b3])) W:=by
 have hu:=Try.underlying34
 unfold execOp
 simp only[ho,hp]
 go_simp
theorem ld4b {o:Oper} {a:Act} {W:World} {p:Operand} {g:Nat} {b0 b1 b2 b3:Value} (ho:o.op= .load 34 p) (hp:a.eval p= .pointer (some ⟨g,0,none⟩)) (hb:W.heap[g]? =some (.cells #[b0,b1,b2,b3] 34 (0,0))):(execOp a.eval o).run Try.prog W= .ok (.value (.agg #[b0,b1,b2,b3])) W:=
 ld4 ho hp ((blk_cell hb 0).trans rfl) ((blk_cell hb 1).trans rfl) ((blk_cell hb 2).trans rfl) ((blk_cell hb 3).trans rfl)
theorem ld9 {o:Oper} {a:Act} {W:World} {p:Operand} {ad:Addr} {v:Value} (ho:o.op= .load 9 p) (hp:a.eval p= .pointer (some ad)) (hc:W.cell? ad=some v):(execOp a.eval o).run Try.prog W= .ok (.value v) W:=by
 have hu:=Try.underlying9
 unfold execOp
 simp only[ho,hp]
 go_simp
theorem ldi {o:Oper} {a:Act} {W:World} {p:Operand} {ad:Addr} {v:Value} (ho:o.op= .load 3 p) (hp:a.eval p= .pointer (some ad)) (hc:W.cell? ad=some v):(execOp a.eval o).run Try.prog W= .ok (.value v) W:=by
 have hu:=Try.underlying3
 unfold execOp
 simp only[ho,hp]
 go_simp
set_option maxHeartbeats 8000000 in
set_option maxRecDepth 100000 in
theorem laws_FnQueues.calls (k:Nat) (A0:Option Addr) (c0:Nat) (l0:List Int) (r:Bool) (w:World) (hr0:Kd.C (Kd.int .u8) w A0 l0.length l0) (hc0:l0.length≤c0) (h:laws_FnQueues.f k l0=some r):
  Calls Try.prog 12 #[.slice A0 l0.length c0] w fun e w'=>e= .returned (.bool r)∧Below w.heap.size w w':=by
 have hu34:=Try.underlying34
 have LA0:=Aside0.mk hc0
 have RA0:=Aside0.mk hr0
 clear hr0 hc0
 unfold laws_FnQueues.f at h
 obtain⟨t,A2,H⟩:=bnn h;clear h
 cases t with
 | true=>
  obtain rfl:=Option.some.inj H
  go_enter Try.func12,Try.ntmps12
  go_wp2_with (first | ((with_reducible refine kd 28 ?_);refine kc 58 28 Try.func58 #[.slice A0 l0.length c0] ?_;with_reducible refine(laws_big.calls _ _ l0 true _ sd sd A2.out).mono ?_;rintro e w_ ⟨rfl,hb⟩;refine⟨_,rfl,?_⟩;have E1:=Aside0.mk (Drawn0.below hb);clear hb))
  go_ret
  exact⟨rfl,ch⟩
 | false=>
 replace H:=(if_neg (by decide:¬(false=true))).symm.trans H
 obtain⟨⟨q,x0,x1,x2,x⟩,F1,G⟩:=bnn H;clear H
 obtain⟨⟨a,ok⟩,F2,H⟩:=bnn G;clear G
 obtain⟨⟨b,ok2⟩,F3,G⟩:=bnn H;clear H
 obtain⟨⟨t,rt⟩,F4,H⟩:=bnn G;clear G
 obtain⟨⟨y0,y1,y2,y,rest,is⟩,F5,G⟩:=bnn H;clear H
 obtain⟨⟨u0,u1,u2,u,other,is2⟩,F6,H⟩:=bnn G;clear G
 obtain⟨⟨d,now⟩,F7,G⟩:=bnn H;clear H
 obtain⟨e,F8,H⟩:=bnn G;clear G
 obtain⟨⟨f,fr⟩,F9,G⟩:=bnn H;clear H
 obtain⟨o,F10,H⟩:=bnn G;clear G
 obtain⟨⟨i0,i1,i2,i⟩,F11,G⟩:=bnn H;clear H
 obtain⟨d1,H⟩:=ifF G;clear G
 obtain⟨_,F12,G⟩:=bnn H;clear H
 obtain⟨rfl,H⟩:=ifT G;clear G
 obtain⟨d2,G⟩:=ifF H;clear H
 obtain⟨_,F13,H⟩:=bnn G;clear G
 obtain⟨rfl,G⟩:=ifT H;clear H
 obtain⟨_,F14,H⟩:=bnn G;clear G
 obtain⟨rfl,G⟩:=ifT H;clear H
 obtain⟨e2,F15,H⟩:=bnn G;clear G
 obtain⟨_,F16,G⟩:=bnn H;clear H
 obtain⟨rfl,H⟩:=ifT G;clear G
 obtain⟨c1,F17,G⟩:=bnn H;clear H
 obtain⟨c1b,F18,H⟩:=bnn G;clear G
 obtain⟨rfl,G⟩:=ifT H;clear H
 obtain⟨c2,F19,H⟩:=bnn G;clear G
 obtain⟨c2b,F20,G⟩:=bnn H;clear H
 obtain⟨d3,H⟩:=ifF G;clear G
 obtain⟨c3,F21,G⟩:=bnn H;clear H
 obtain⟨c3b,F22,H⟩:=bnn G;clear G
 obtain rfl:ok=ok2:=by cases ok <;> cases ok2 <;> first | rfl | exact absurd rfl d1
 obtain rfl:is=is2:=by cases is <;> cases is2 <;> first | rfl | exact absurd rfl d2
 obtain rfl:c2=c2b:=by cases c2 <;> cases c2b <;> first | rfl | exact absurd rfl d3
 clear d1 d2 d3
 dsimp only at F1 F2 F3 F4 F5 F6 F7 F8 F9 F11 F12 F13 F14 F15 F17 F18 F21 F22 H
 cases k with
 | zero=>simp [laws_FnQueues.j0] at H
 | succ k1=>
 simp only[laws_FnQueues.j0] at H
 obtain⟨d4,G⟩:=ifF H;clear H
 obtain rfl:c3=c3b:=by cases c3 <;> cases c3b <;> first | rfl | exact absurd rfl d4
 clear d4
 have HH:=Aside0.mk G
 clear G
 generalize hk:k1+1=k at F1 F2 F3 F4 F5 F6 F7 F8 F9 F10 F11 F12 F14 F15 F16 F17 F18 F19 F20 F21 F22
 clear hk
 go_enter Try.func12,Try.ntmps12
 go_upto_region 13 with (first | ((with_reducible refine kd 28 ?_);refine kc 58 28 Try.func58 #[.slice A0 l0.length c0] ?_;with_reducible refine(laws_big.calls _ _ l0 false _ sd sd A2.out).mono ?_;rintro e w_ ⟨rfl,hb⟩;refine⟨_,rfl,?_⟩;have E1:=Aside0.mk (Drawn0.below hb);clear hb) | ((with_reducible refine kd 31 ?_);refine kc 59 31 Try.func59 #[.slice A0 l0.length c0] ?_;with_reducible refine(spec_DrawPut.calls k _ _ l0 q x0 x1 x2 x _ sd sd F1.out).mono ?_;rintro e w_ ⟨Vq,Vx,rfl,h0,h1,hb⟩;refine⟨_,rfl,?_⟩;obtain⟨Aq,Cq,rfl,Lq,Rq⟩:=ssl h0;clear h0;obtain⟨Ax,Cx,rfl,Lx,Rx⟩:=rsl h1;clear h1;have E2:=Aside0.mk hb;clear hb) | ((with_reducible refine kd 4 ?_);refine kb2 4 3 34 [.string (⟨#[]⟩:ByteArray), .int .i64 0, .int .i64 0, .slice none 0 0] [.string x0, .int .i64 x1, .int .i64 x2, .slice Ax x.length Cx] (.agg #[.string x0, .int .i64 x1, .int .i64 x2, .slice Ax x.length Cx]) (.slice Aq q.length Cq) (fun gx w_ Bx E3=>?_)) | ((with_reducible refine kd 36 ?_);refine kl _ (ld4b (by with_reducible exact rfl) (by rfl) (bcell Bx)) ?_) | ((with_reducible refine kd 42 ?_);refine kl _ (ld4b (by with_reducible exact rfl) (by rfl) (bcell Bx)) ?_) | ((with_reducible refine kd 37 ?_);refine kc 60 37 Try.func60 #[.slice Aq q.length Cq, .agg #[.string x0, .int .i64 x1, .int .i64 x2, .slice Ax x.length Cx]] ?_;with_reducible refine(impl_Put.calls k _ _ q x0 x1 x2 _ _ x a ok _ sd sd sd sd F2.out).mono ?_;rintro e w_ ⟨Va,rfl,h0,hb⟩;refine⟨_,rfl,?_⟩;obtain⟨Aa,Ca,rfl,La,Ra⟩:=ssl h0;clear h0;have E4:=Aside0.mk hb;clear hb) | ((with_reducible refine kd 43 ?_);refine kc 61 43 Try.func61 #[.slice Aq q.length Cq, .agg #[.string x0, .int .i64 x1, .int .i64 x2, .slice Ax x.length Cx]] ?_;with_reducible refine(spec_Put.calls k _ _ q x0 x1 x2 _ _ x b ok _ sd sd sd sd F3.out).mono ?_;rintro e w_ ⟨Vb,rfl,h0,hb⟩;refine⟨_,rfl,?_⟩;obtain⟨Ab,Cb,rfl,Lb,Rb⟩:=ssl h0;clear h0;have E5:=Aside0.mk hb;clear hb) | ((with_reducible refine kd 48 ?_);refine kc 62 48 Try.func62 #[.slice A0 l0.length c0] ?_;with_reducible refine(spec_DrawTake.calls k _ _ l0 t rt _ sd sd F4.out).mono ?_;rintro e w_ ⟨Vt,rfl,h0,hb⟩;refine⟨_,rfl,?_⟩;obtain⟨At,Ct,rfl,Lt,Rt⟩:=ssl h0;clear h0;have E6:=Aside0.mk hb;clear hb) | ((with_reducible refine kd 54 ?_);refine kc 45 54 Try.func45 #[.slice At t.length Ct, .string rt] ?_;with_reducible refine(impl_Take.calls k _ _ t rt y0 y1 y2 y rest is _ sd sd F5.out).mono ?_;rintro e w_ ⟨Vy,Vrest,rfl,h0,h1,hb⟩;refine⟨_,rfl,?_⟩;obtain⟨Ay,Cy,rfl,Ly,Ry⟩:=rsl h0;clear h0;obtain⟨Arest,Crest,rfl,Lrest,Rrest⟩:=ssl h1;clear h1;have E7:=Aside0.mk hb;clear hb) | ((with_reducible refine kd 11 ?_);refine kb 11 34 [.string (⟨#[]⟩:ByteArray), .int .i64 0, .int .i64 0, .slice none 0 0] [.string y0, .int .i64 y1, .int .i64 y2, .slice Ay y.length Cy] (.agg #[.string y0, .int .i64 y1, .int .i64 y2, .slice Ay y.length Cy]) (fun gy w_ By E8=>?_)) | ((with_reducible refine kd 61 ?_);refine kc 44 61 Try.func44 #[.slice At t.length Ct, .string rt] ?_;with_reducible refine(spec_Take.calls k _ _ t rt u0 u1 u2 u other is _ sd sd F6.out).mono ?_;rintro e w_ ⟨Vu,Vother,rfl,h0,h1,hb⟩;refine⟨_,rfl,?_⟩;obtain⟨Au,Cu,rfl,Lu,Ru⟩:=rsl h0;clear h0;obtain⟨Aother,Cother,rfl,Lother,Rother⟩:=nsl h1;clear h1;have E9:=Aside0.mk hb;clear hb) | ((with_reducible refine kd 14 ?_);refine kb 14 34 [.string (⟨#[]⟩:ByteArray), .int .i64 0, .int .i64 0, .slice none 0 0] [.string u0, .int .i64 u1, .int .i64 u2, .slice Au u.length Cu] (.agg #[.string u0, .int .i64 u1, .int .i64 u2, .slice Au u.length Cu]) (fun gu w_ Bu E10=>?_)) | ((with_reducible refine kd 67 ?_);refine kc 63 67 Try.func63 #[.slice A0 l0.length c0] ?_;with_reducible refine(spec_DrawDue.calls k _ _ l0 d now _ sd sd F7.out).mono ?_;rintro e w_ ⟨Vd,rfl,h0,hb⟩;refine⟨_,rfl,?_⟩;obtain⟨Ad,Cd,rfl,Ld,Rd⟩:=ssl h0;clear h0;have E11:=Aside0.mk hb;clear hb) | ((with_reducible refine kd 72 ?_);refine kc 39 72 Try.func39 #[.slice Ad d.length Cd, .int .i64 now] ?_;with_reducible refine(impl_Due.calls k _ _ d now e _ sd sd F8.out).mono ?_;rintro e w_ ⟨Ve,rfl,h0,hb⟩;refine⟨_,rfl,?_⟩;obtain⟨Ae,Ce,rfl,Le,Re⟩:=ssl h0;clear h0;have E12:=Aside0.mk hb;clear hb) | ((with_reducible refine kd 75 ?_);refine kc 64 75 Try.func64 #[.slice A0 l0.length c0] ?_;with_reducible refine(spec_DrawOf.calls k _ _ l0 f fr _ sd sd F9.out).mono ?_;rintro e w_ ⟨Vf,rfl,h0,hb⟩;refine⟨_,rfl,?_⟩;obtain⟨Af,Cf,rfl,Lf,Rf⟩:=ssl h0;clear h0;have E13:=Aside0.mk hb;clear hb) | ((with_reducible refine kd 79 ?_);refine kc 65 79 Try.func65 #[.slice A0 l0.length c0] ?_;with_reducible refine(spec_DrawQueueOk.calls k _ _ l0 o _ sd sd F10.out).mono ?_;rintro e w_ ⟨Vo,rfl,h0,hb⟩;refine⟨_,rfl,?_⟩;obtain⟨Ao,Co,rfl,Lo,Ro⟩:=ssl h0;clear h0;have E14:=Aside0.mk hb;clear hb) | ((with_reducible refine kd 81 ?_);refine kc 66 81 Try.func66 #[.slice A0 l0.length c0] ?_;with_reducible refine(spec_DrawItemOk.calls k _ _ l0 i0 i1 i2 i _ sd sd F11.out).mono ?_;rintro e w_ ⟨Vi,rfl,h0,hb⟩;refine⟨_,rfl,?_⟩;obtain⟨Ai,Ci,rfl,Li,Ri⟩:=rsl h0;clear h0;have E15:=Aside0.mk hb;clear hb) | ((with_reducible refine kd 23 ?_);refine kb2 23 22 34 [.string (⟨#[]⟩:ByteArray), .int .i64 0, .int .i64 0, .slice none 0 0] [.string i0, .int .i64 i1, .int .i64 i2, .slice Ai i.length Ci] (.agg #[.string i0, .int .i64 i1, .int .i64 i2, .slice Ai i.length Ci]) (.slice Ao o.length Co) (fun gi w_ Bi E16=>?_)))
 (try simp only[Act.put,zct,zdz,zea])
 go_cut [138] (fun v138 wc=>v138= .bool false∧Aside0 (Below w.heap.size w wc)∧Aside0 (Below w_.heap.size w_ wc))
 case first=>
  as_aux_lemma=>
  have HT_:=Aside0.mk laws_FnQueues.tab13
  have HW_:=Aside0.mk laws_FnQueues.bits13
  refine rst 57 (by kernel_rfl) (fun w_ E17=>?_)
  refine ru 0 82 HT_.out ?_
  refine ru 1 83 HT_.out ?_
  refine ru 2 84 HT_.out ?_
  refine ru 3 85 HT_.out ?_
  refine ru 4 86 HT_.out ?_
  refine ru 5 87 HT_.out ?_
  refine rc 6 88 67 HT_.out Try.func67 #[.slice Aa a.length Ca, .slice Ab b.length Cb] ?_
  with_reducible refine(laws_sameItems.calls k _ _ a _ _ b true _ sd sd sd sd F12.out).mono ?_
  rintro e w_ ⟨rfl,hb⟩
  have E18:=Aside0.mk hb
  clear hb
  refine⟨_,rfl,ch,nrm ?_⟩
  refine ru 7 89 HT_.out ?_
  refine ru 8 90 HT_.out ?_
  refine ru 9 91 HT_.out ?_
  refine ru 10 92 HT_.out ?_
  refine ru 11 93 HT_.out ?_
  refine ru 12 94 HT_.out ?_
  refine ru 13 95 HT_.out ?_
  refine ru 14 96 HT_.out ?_
  refine tl 15 97 (.agg #[.string y0, .int .i64 y1, .int .i64 y2, .slice Ay y.length Cy]) HT_.out HW_.out ch ?_ ?_
  ·exact fun w_ h_=>ld4b rfl rfl (zeo (bcell By) h_)
  refine tl 16 98 (.agg #[.string u0, .int .i64 u1, .int .i64 u2, .slice Au u.length Cu]) HT_.out HW_.out ch ?_ ?_
  ·exact fun w_ h_=>ld4b rfl rfl (zeo (bcell Bu) h_)
  refine rc 17 99 68 HT_.out Try.func68 #[.agg #[.string y0, .int .i64 y1, .int .i64 y2, .slice Ay y.length Cy], .agg #[.string u0, .int .i64 u1, .int .i64 u2, .slice Au u.length Cu]] ?_
  with_reducible refine(laws_sameItem.calls y0 y1 y2 _ _ y u0 u1 u2 _ _ u true _ sd sd sd sd F13.out).mono ?_
  rintro e w_ ⟨rfl,hb⟩
  have E19:=Aside0.mk hb
  clear hb
  refine⟨_,rfl,ch,nrm ?_⟩
  refine ru 18 100 HT_.out ?_
  refine ru 19 101 HT_.out ?_
  refine ru 20 102 HT_.out ?_
  refine ru 21 103 HT_.out ?_
  refine ru 22 104 HT_.out ?_
  refine rc 23 105 67 HT_.out Try.func67 #[.slice Arest rest.length Crest, .slice Aother other.length Cother] ?_
  with_reducible refine(laws_sameItems.calls k _ _ rest _ _ other true _ sd sd sd sd F14.out).mono ?_
  rintro e w_ ⟨rfl,hb⟩
  have E20:=Aside0.mk hb
  clear hb
  refine⟨_,rfl,ch,nrm ?_⟩
  refine ru 24 106 HT_.out ?_
  refine ru 25 107 HT_.out ?_
  refine ru 26 108 HT_.out ?_
  refine ru 27 109 HT_.out ?_
  refine ru 28 110 HT_.out ?_
  refine ru 29 111 HT_.out ?_
  refine rc 30 112 38 HT_.out Try.func38 #[.slice Ad d.length Cd, .int .i64 now] ?_
  with_reducible refine(spec_Due.calls k _ _ d now e2 _ sd sd F15.out).mono ?_
  rintro e w_ ⟨Ve2,rfl,h0,hb⟩
  obtain⟨Ae2,Ce2,rfl,Le2,Re2⟩:=ssl h0
  clear h0
  have E21:=Aside0.mk hb
  clear hb
  refine⟨_,rfl,ch,nrm ?_⟩
  refine rc 31 113 67 HT_.out Try.func67 #[.slice Ae e.length Ce, .slice Ae2 e2.length Ce2] ?_
  with_reducible refine(laws_sameItems.calls k _ _ e _ _ e2 true _ sd sd sd sd F16.out).mono ?_
  rintro e w_ ⟨rfl,hb⟩
  have E22:=Aside0.mk hb
  clear hb
  refine⟨_,rfl,ch,nrm ?_⟩
  refine ru 32 114 HT_.out ?_
  refine ru 33 115 HT_.out ?_
  refine ru 34 116 HT_.out ?_
  refine ru 35 117 HT_.out ?_
  refine ru 36 118 HT_.out ?_
  refine ru 38 120 HT_.out ?_
  refine ru 39 121 HT_.out ?_
  refine rc 37 119 21 HT_.out Try.func21 #[.slice Af f.length Cf, .string fr] ?_
  with_reducible refine(impl_Of.calls k _ _ f fr c1 _ sd sd F17.out).mono ?_
  rintro e w_ ⟨rfl,hb⟩
  have E23:=Aside0.mk hb
  clear hb
  refine⟨_,rfl,ch,nrm ?_⟩
  refine rc 40 122 19 HT_.out Try.func19 #[.slice Af f.length Cf, .string fr] ?_
  with_reducible refine(spec_Of.calls k _ _ f fr c1 _ sd sd F18.out).mono ?_
  rintro e w_ ⟨rfl,hb⟩
  have E24:=Aside0.mk (Drawn0.below hb)
  clear hb
  refine⟨_,rfl,ch,nrm ?_⟩
  refine ru 41 123 HT_.out ?_
  refine ru 42 124 HT_.out ?_
  refine ru 43 125 HT_.out ?_
  refine ru 44 126 HT_.out ?_
  refine ru 46 128 HT_.out ?_
  refine rc 45 127 43 HT_.out Try.func43 #[.slice Ao o.length Co] ?_
  with_reducible refine(impl_QueueOk.calls k _ _ o c2 _ sd sd F19.out).mono ?_
  rintro e w_ ⟨rfl,hb⟩
  have E25:=Aside0.mk hb
  clear hb
  refine⟨_,rfl,ch,nrm ?_⟩
  refine rc 47 129 42 HT_.out Try.func42 #[.slice Ao o.length Co] ?_
  with_reducible refine(spec_QueueOk.calls k _ _ o c2 _ sd sd F20.out).mono ?_
  rintro e w_ ⟨rfl,hb⟩
  have E26:=Aside0.mk hb
  clear hb
  refine⟨_,rfl,ch,nrm ?_⟩
  refine ru 48 130 HT_.out ?_
  refine ru 49 131 HT_.out ?_
  refine ru 50 132 HT_.out ?_
  refine tl 51 133 (.agg #[.string i0, .int .i64 i1, .int .i64 i2, .slice Ai i.length Ci]) HT_.out HW_.out ch ?_ ?_
  ·exact fun w_ h_=>ld4b rfl rfl (zeo (bcell Bi) h_)
  refine tl 53 135 (.agg #[.string i0, .int .i64 i1, .int .i64 i2, .slice Ai i.length Ci]) HT_.out HW_.out ch ?_ ?_
  ·exact fun w_ h_=>ld4b rfl rfl (zeo (bcell Bi) h_)
  refine rc 52 134 26 HT_.out Try.func26 #[.agg #[.string i0, .int .i64 i1, .int .i64 i2, .slice Ai i.length Ci]] ?_
  with_reducible refine(impl_ItemOk.calls k i0 i1 i2 _ _ i c3 _ sd sd F21.out).mono ?_
  rintro e w_ ⟨rfl,hb⟩
  have E27:=Aside0.mk hb
  clear hb
  refine⟨_,rfl,ch,nrm ?_⟩
  refine rc 54 136 24 HT_.out Try.func24 #[.agg #[.string i0, .int .i64 i1, .int .i64 i2, .slice Ai i.length Ci]] ?_
  with_reducible refine(spec_ItemOk.calls k i0 i1 i2 _ _ i c3 _ sd sd F22.out).mono ?_
  rintro e w_ ⟨rfl,hb⟩
  have E28:=Aside0.mk hb
  clear hb
  refine⟨_,rfl,ch,nrm ?_⟩
  refine ru 55 137 HT_.out ?_
  refine ru 56 138 HT_.out ?_
  refine done_ (done_of HT_.out (by kernel_rfl)) ?_
  try go_wp2
  go_meet
  case rel=>exact⟨rfl,⟨ch⟩,⟨ch⟩⟩
 case rest=>
 obtain⟨rfl,E29,E30⟩:=hcut
 go_wp2
 go_loopg [24] k1 (fun kq v24 w'=>∃ (x24:Int) (wA:World),wA=w'∧v24= .int .i64 x24∧Aside0 (laws_FnQueues.l0 kq q a ok t rt rest is now e x24 x0 x1 x2 x y0 y1 y2 y=some r)∧Aside0 (kq≤k1)∧Aside0 (Below wc.heap.size wc w'))
 case atStart=>exact⟨0,_,rfl,rfl,HH,⟨zbc _⟩,⟨ch⟩⟩
 case round=>
 clear HH
 obtain⟨x24,wA,rfl,rfl,HA,HK2,E31⟩:=hrel
 cases gk with
 | zero=>exact absurd HA.out (by simp [laws_FnQueues.l0])
 | succ k2=>
 have H:=HA.out
 clear HA
 simp only[laws_FnQueues.l0] at H
 by_cases c89:x24<(e.length:Int)
 ·rw[if_pos c89] at H
  obtain⟨c90,G⟩:=ifT H;clear H
  obtain⟨c91,H⟩:=ifF G;clear G
  have H':=Aside0.mk H;clear H
  obtain⟨ad,A3,c3_,e_,hx0,hx1,hx2,hx3,L3,R3⟩:=at_T34 (sd:Kd.C k34 wA Ae e.length e) x24 c90 c89
  cases e_
  have b1:=zag c89
  have b2:=zaw c91
  replace c89:=zbd c89
  replace c90:=zbd c90
  go_wp2
  go_roundg k2
  case measure=>have:=HK2.out;omega
  case rel=>exact⟨wrap64 (x24+1),_,rfl,rfl,H',⟨by have:=HK2.out;omega⟩,⟨ch⟩⟩
 rw[if_neg c89] at H
 have b1:=zaw c89
 clear c89
 obtain⟨c4,F23,G⟩:=bnn H;clear H
 obtain⟨d5,H⟩:=ifF G;clear G
 have HJ:∃ v:Bool,(is=decide (c4>0))∧(is=true→y0.toList=rt.toList∧∃ c5 c6,Aside0 (impl_Of.f k2 rest rt=some c5)∧Aside0 (impl_Of.f k2 t rt=some c6)∧v=(c5 != wrap64 (c6 - 1)))∧(is=false→v=false)∧laws_FnQueues.j2 k2 q a ok v x0 x1 x2 x=some r:=by
  have e_:is=decide (c4>0):=by simpa using d5
  cases is with
  | true=>
   replace H:=(if_pos rfl).symm.trans H
   obtain⟨c98,G⟩:=ifT H;clear H
   obtain⟨c5,q5,H⟩:=bnn G;clear G
   obtain⟨c6,q6,G⟩:=bnn H;clear H
   exact⟨_,e_,fun _=>⟨c98,c5,c6,q5,q6,rfl⟩,fun h=>(by cases h),G⟩
  | false=>
   replace H:=(if_neg (by decide:¬(false=true))).symm.trans H
   exact⟨false,e_,fun h=>(by cases h),fun _=>rfl,H⟩
 clear d5 H
 obtain⟨v,hv0,hv1,hv2,H⟩:=HJ
 cases k2 with
 | zero=>simp [laws_FnQueues.j2] at H
 | succ k3=>
 simp only[laws_FnQueues.j2] at H
 obtain⟨d6,G⟩:=ifF H;clear H
 obtain rfl:v=false:=by cases v <;> first | rfl | exact absurd rfl d6
 clear d6
 replace hv0:=Aside0.mk hv0
 replace hv1:=Aside0.mk hv1
 have HC:=Aside0.mk G;clear G
 clear hv2
 generalize hk2:k3+1=k2 at F23 hv1 HK2
 go_upto_region 20 with (fail)
 go_cut [176] (fun v176 wc=>v176= .bool false∧Aside0 (Below wA.heap.size wA wc))
 case first=>
  clear HC
  cases is with
  | true=>
   obtain⟨c98,c5,c6,F24,F25,e6⟩:=hv1.out rfl
   have b98:(y0.toList != rt.toList)=false:=zbj.mpr c98
   have b97:(y0.toList==rt.toList)=true:=beq_iff_eq.mpr c98
   have b5:decide (0<c4)=true:=hv0.out.symm
   replace e6:=e6.symm
   go_wp2_with (first | ((with_reducible refine kd 155 ?_);refine kc 21 155 Try.func21 #[.slice At t.length Ct, .string rt] ?_;with_reducible refine(impl_Of.calls k2 _ _ t rt c4 _ sd sd F23.out).mono ?_;rintro e w_ ⟨rfl,hb⟩;refine⟨_,rfl,?_⟩;have E32:=Aside0.mk hb;clear hb) | ((with_reducible refine kd 162 ?_);refine kg 162 ?_;dsimp only;refine kl _ (ld9 (by with_reducible exact rfl) (by rfl) ((blk_cell (bcell By) 0).trans rfl)) ?_) | ((with_reducible refine kd 168 ?_);refine kg 168 ?_;dsimp only;refine kc 21 168 Try.func21 #[.slice Arest rest.length Crest, .string rt] ?_;with_reducible refine(impl_Of.calls k2 _ _ rest rt c5 _ sd sd F24.out).mono ?_;rintro e w_ ⟨rfl,hb⟩;refine⟨_,rfl,?_⟩;have E33:=Aside0.mk hb;clear hb) | ((with_reducible refine kd 171 ?_);refine kg 171 ?_;dsimp only;refine kc 21 171 Try.func21 #[.slice At t.length Ct, .string rt] ?_;with_reducible refine(impl_Of.calls k2 _ _ t rt c6 _ sd sd F25.out).mono ?_;rintro e w_ ⟨rfl,hb⟩;refine⟨_,rfl,?_⟩;have E34:=Aside0.mk hb;clear hb))
   go_meet
   case rel=>exact⟨rfl,⟨ch⟩⟩
  | false=>
   have b5:decide (0<c4)=false:=hv0.out.symm
   go_wp2_with (first | ((with_reducible refine kd 155 ?_);refine kc 21 155 Try.func21 #[.slice At t.length Ct, .string rt] ?_;with_reducible refine(impl_Of.calls k2 _ _ t rt c4 _ sd sd F23.out).mono ?_;rintro e w_ ⟨rfl,hb⟩;refine⟨_,rfl,?_⟩;have E32:=Aside0.mk hb;clear hb))
   go_meet
   case rel=>exact⟨rfl,⟨ch⟩⟩
 case rest=>
 clear hv0 hv1 F23
 obtain⟨rfl,E35⟩:=hcut
 have H:=HC.out;clear HC
 cases ok with
 | false=>
  replace H:=(if_neg (by decide:¬(false=true))).symm.trans H
  obtain⟨r2,F26,G⟩:=bnn H;clear H
  obtain rfl:=Option.some.inj G
  go_wp2_with (first | ((with_reducible refine kd 181 ?_);refine kc 67 181 Try.func67 #[.slice Aa a.length Ca, .slice Aq q.length Cq] ?_;with_reducible refine(laws_sameItems.calls k3 _ _ a _ _ q r2 _ sd sd sd sd F26.out).mono ?_;rintro e w_ ⟨rfl,hb⟩;refine⟨_,rfl,?_⟩;have E39:=Aside0.mk hb;clear hb))
  go_ret
  exact⟨rfl,ch⟩
 | true=>
 replace H:=(if_pos rfl).symm.trans H
 have H':=Aside0.mk H;clear H
 go_wp2
 go_loopg [25,26] k3 (fun kq v25 v26 w'=>∃ (x25 x26:Int) (wB:World),wB=w'∧v25= .int .i64 x25∧v26= .int .i64 x26∧Aside0 (laws_FnQueues.l1 kq a x25 x26 x0 x1 x2 x=some r)∧Aside0 (kq≤k3)∧Aside0 (Below wc.heap.size wc w'))
 case atStart=>exact⟨0,0,_,rfl,rfl,rfl,H',⟨zbc _⟩,⟨ch⟩⟩
 case round=>
 clear H'
 obtain⟨x25,x26,wB,rfl,rfl,rfl,HA,HK4,E36⟩:=hrel
 cases gk with
 | zero=>exact absurd HA.out (by simp [laws_FnQueues.l1])
 | succ k4=>
 have H:=HA.out
 clear HA
 simp only[laws_FnQueues.l1] at H
 have hb4:wB.heap[gx]? =_:=bcell Bx
 have hc0:wB.cell? ⟨gx,0,none⟩=some (.string x0):=(blk_cell hb4 0).trans rfl
 have hc1:wB.cell? ⟨gx,1,none⟩=some (.int .i64 x1):=(blk_cell hb4 1).trans rfl
 clear hb4
 by_cases c112:x26<(a.length:Int)
 ·rw[if_pos c112] at H
  have b1:=zag c112
  by_cases c113:x1>0
  ·rw[if_pos c113] at H
   have b2:decide (0<x1)=true:=zag c113
   obtain⟨c114,G⟩:=ifT H;clear H
   obtain⟨ad,A3,c3_,e_,hx0,hx1,hx2,hx3,L3,R3⟩:=at_T34 (sd:Kd.C k34 wB Aa a.length a) x26 c114 c112
   cases e_
   replace c112:=zbd c112
   replace c114:=zbd c114
   by_cases c115:((rd_T34 a x26).f0).toList=x0.toList
   ·rw[if_pos c115] at G
    have b3:(((rd_T34 a x26).f0).toList==x0.toList)=true:=beq_iff_eq.mpr c115
    by_cases c116:(rd_T34 a x26).f1=x1
    ·rw[if_pos c116] at G
     have b4:((rd_T34 a x26).f1==x1)=true:=beq_iff_eq.mpr c116
     clear c113 c115 c116
     have H':=Aside0.mk G;clear G
     go_upto_region 28 with (fail)
     as_aux_lemma=>
     go_quiet (fail)
     try go_wp2
     go_roundg k4
     case measure=>have:=HK4.out;omega
     case rel=>exact⟨wrap64 (x25+1),wrap64 (x26+1),_,rfl,rfl,rfl,H',⟨by have:=HK4.out;omega⟩,⟨ch⟩⟩
    rw[if_neg c116] at G
    have b4:((rd_T34 a x26).f1==x1)=false:=zbb.mpr c116
    clear c113 c115 c116
    have H':=Aside0.mk G;clear G
    go_upto_region 28 with (fail)
    as_aux_lemma=>
    go_quiet (fail)
    try go_wp2
    go_roundg k4
    case measure=>have:=HK4.out;omega
    case rel=>exact⟨x25,wrap64 (x26+1),_,rfl,rfl,rfl,H',⟨by have:=HK4.out;omega⟩,⟨ch⟩⟩
   rw[if_neg c115] at G
   have b3:(((rd_T34 a x26).f0).toList==x0.toList)=false:=zbb.mpr c115
   clear c113 c115
   have H':=Aside0.mk G;clear G
   go_upto_region 28 with (fail)
   as_aux_lemma=>
   go_quiet (fail)
   try go_wp2
   go_roundg k4
   case measure=>have:=HK4.out;omega
   case rel=>exact⟨x25,wrap64 (x26+1),_,rfl,rfl,rfl,H',⟨by have:=HK4.out;omega⟩,⟨ch⟩⟩
  rw[if_neg c113] at H
  have b2:decide (0<x1)=false:=zaw c113
  clear c113
  have H':=Aside0.mk H;clear H
  go_upto_region 28 with (fail)
  as_aux_lemma=>
  go_quiet (fail)
  try go_wp2
  go_roundg k4
  case measure=>have:=HK4.out;omega
  case rel=>exact⟨x25,wrap64 (x26+1),_,rfl,rfl,rfl,H',⟨by have:=HK4.out;omega⟩,⟨ch⟩⟩
 rw[if_neg c112] at H
 have b1:=zaw c112
 clear c112
 obtain⟨_,F27,G⟩:=bnn H;clear H
 obtain⟨rfl,H⟩:=ifT G;clear G
 obtain⟨p7,G⟩:=ifT H;clear H
 obtain⟨q7,H⟩:=ifT G;clear G
 obtain⟨_,F28,G⟩:=bnn H;clear H
 obtain⟨rfl,H⟩:=ifT G;clear G
 obtain⟨ad,A3,c3_,e_,hx0,hx1,hx2,hx3,L3,R3⟩:=at_T34 (sd:Kd.C k34 wB Aa a.length a) _ p7 q7
 cases e_
 replace L3:=Aside0.mk L3
 replace R3:=Aside0.mk R3
 replace p7:=zbd p7
 replace q7:=zbd q7
 go_upto_region 30 with (fail)
 have HT_:=Aside0.mk laws_FnQueues.tab30
 have HW_:=Aside0.mk laws_FnQueues.bits30
 as_aux_lemma=>
 refine rst 22 (by kernel_rfl) (fun w_ E39=>?_)
 refine ru 0 213 HT_.out ?_
 refine rc 1 214 43 HT_.out Try.func43 #[.slice (some ad) a.length Ca] ?_
 with_reducible refine(impl_QueueOk.calls k4 _ _ a true _ sd sd F27.out).mono ?_
 rintro e w_ ⟨rfl,hb⟩
 have E40:=Aside0.mk hb
 clear hb
 refine⟨_,rfl,ch,nrm ?_⟩
 refine ru 2 215 HT_.out ?_
 refine ru 3 216 HT_.out ?_
 refine ru 4 217 HT_.out ?_
 refine ru 5 218 HT_.out ?_
 refine ru 6 219 HT_.out ?_
 refine ru 7 220 HT_.out ?_
 refine tl 8 221 (.agg #[.string (rd_T34 a (wrap64 ((a.length:Int) - 1))).f0, .int .i64 (rd_T34 a (wrap64 ((a.length:Int) - 1))).f1, .int .i64 (rd_T34 a (wrap64 ((a.length:Int) - 1))).f2, .slice A3 (rd_T34 a (wrap64 ((a.length:Int) - 1))).f3.length c3_]) HT_.out HW_.out ch ?_ ?_
 ·exact fun w_ h_=>ld4 rfl rfl (wcell (wcell hx0) h_) (wcell (wcell hx1) h_) (wcell (wcell hx2) h_) (wcell (wcell hx3) h_)
 refine tl 9 222 (.agg #[.string x0, .int .i64 x1, .int .i64 x2, .slice Ax x.length Cx]) HT_.out HW_.out ch ?_ ?_
 ·exact fun w_ h_=>ld4b rfl rfl (zeo (bcell Bx) h_)
 refine rc 10 223 68 HT_.out Try.func68 #[.agg #[.string (rd_T34 a (wrap64 ((a.length:Int) - 1))).f0, .int .i64 (rd_T34 a (wrap64 ((a.length:Int) - 1))).f1, .int .i64 (rd_T34 a (wrap64 ((a.length:Int) - 1))).f2, .slice A3 (rd_T34 a (wrap64 ((a.length:Int) - 1))).f3.length c3_], .agg #[.string x0, .int .i64 x1, .int .i64 x2, .slice Ax x.length Cx]] ?_
 with_reducible refine(laws_sameItem.calls _ _ _ _ _ (rd_T34 a (wrap64 ((a.length:Int) - 1))).f3 x0 x1 x2 _ _ x true _ sd sd sd sd F28.out).mono ?_
 rintro e w_ ⟨rfl,hb⟩
 have E41:=Aside0.mk hb
 clear hb
 refine⟨_,rfl,ch,nrm ?_⟩
 refine ru 11 224 HT_.out ?_
 refine ru 12 225 HT_.out ?_
 refine ru 13 226 HT_.out ?_
 refine tl 14 227 (.int .i64 x1) HT_.out HW_.out ch ?_ ?_
 ·exact fun w_ h_=>ldi rfl rfl ((blk_cell (zeo (bcell Bx) h_) 1).trans rfl)
 by_cases c40:x1=0
 ·rw[if_pos c40] at H
  obtain rfl:=Option.some.inj H
  have b9:(x1==0)=true:=beq_iff_eq.mpr c40
  clear c40
  refine ru 15 228 HT_.out ?_
  refine ru 16 229 HT_.out ?_
  refine rn 17 230 HT_.out ?_
  refine rn 18 231 HT_.out ?_
  refine ru 19 232 HT_.out ?_
  refine ru 20 233 HT_.out ?_
  refine ru 21 2 HT_.out ?_
  refine done_ (done_of HT_.out (by kernel_rfl)) ?_
  try go_wp2
  go_ret
  exact⟨by first | rfl | (simp;done) | (simp [*];done),ch⟩
 rw[if_neg c40] at H
 obtain rfl:=Option.some.inj H
 have b9:(x1==0)=false:=zbb.mpr c40
 clear c40
 refine ru 15 228 HT_.out ?_
 refine ru 16 229 HT_.out ?_
 refine ru 17 230 HT_.out ?_
 refine ru 18 231 HT_.out ?_
 refine ru 19 232 HT_.out ?_
 refine ru 20 233 HT_.out ?_
 refine ru 21 2 HT_.out ?_
 refine done_ (done_of HT_.out (by kernel_rfl)) ?_
 try go_wp2
 go_ret
 exact⟨by first | rfl | (simp;done) | (simp [*];done),ch⟩

def laws_FnQueues.Pure:Prop:=∀ (l0:List Int),l0.length≤maxLen→l0.length*1≤140737488351232→(∀ x∈l0,(Lit.int .u8 x).wf=true)→∃ k,laws_FnQueues.f k l0=some true
theorem laws_FnQueues.walk (P:laws_FnQueues.Pure) (a0:Option Addr) (len0 cap0:Nat) (z0:List Int) (w:World) (w0:(a0=none∧len0=0∧cap0=0∧z0=[])∨∃ x,a0=some x∧len0≤cap0∧cap0≤maxLen∧z0.length=cap0∧(∀ i,i<z0.length→w.cell? (x.add i)=some (.int .u8 (z0.getD i 0)))∧∀ n∈z0,(Lit.int .u8 n).wf=true) (y0:len0*1≤140737488351232):
  Calls Try.prog 12 #[.slice a0 len0 cap0] w fun e w'=>e= .returned (.bool true)∧Below w.heap.size w w':=by
 obtain⟨l0,rfl,hr0,hm0,hw0,hc0⟩:=ReadsInt.ofRowC w0
 obtain⟨k,h⟩:=P l0 hm0 y0 hw0
 refine(laws_FnQueues.calls k _ _ l0 true w (Kd.C_of_reads (d:=(0:Int)) (h1:=fun _=>rfl) hr0) hc0 h).mono ?_
 rintro e w' ⟨rfl,hd⟩
 exact⟨rfl,hd⟩
end Go.Proofs.Ytlalkldjpniakaa.P
/- FnQueues: of what is drawn both sides answer one; the last one of a topic waits, who is taken is the first one, what is not due goes. -/
namespace Go.Proofs.Ytlalkldjpniakaa.Pure
open Go.RowKit Go.Proofs.Ytlalkldjpniakaa.P Go.Proofs.Ytlalkldjpniakaa.B Go.Proofs.YtlalkldjpniakaaW.PrintWords Go.Proofs.YtlalkldjpniakaaW.PrintLast Go.Proofs.YtlalkldjpniakaaW.PrintMore
set_option linter.unusedSimpArgs false
theorem sameItem (x:S34):laws_sameItem.f x.f0 x.f1 x.f2 x.f3 x.f0 x.f1 x.f2 x.f3=some true:=by
  unfold laws_sameItem.f
  rw[if_pos rfl,if_pos rfl,if_pos rfl]
  simp
theorem sameItems_l0:∀ (rest pre:List S34),(pre++rest).length≤1099511627776→Ev (fun k=>laws_sameItems.l0 k (pre++rest) (pre++rest) (pre.length:Nat)) true
  | [],pre,hl=>by
    refine evUp ?_
    simp only[laws_sameItems.l0]
    exact evNeg (by simp) (evConst _)
  | x :: rest,pre,hl=>by
    have hl2:(pre++x :: rest).length=pre.length+(rest.length+1):=by simp
    have ih:=sameItems_l0 rest (pre++[x]) (by simp;omega)
    have es:wrap64 ((pre.length:Int)+1)=(((pre++[x]).length:Nat):Int):=wrap_step pre x (by omega)
    rw[← snoc_app] at ih
    refine evUp ?_
    simp only[laws_sameItems.l0,rdT34_mid,es,sameItem,Option.bind_some]
    exact evPos (by omega) (evPos (by omega) (evPos (by omega) (evPos (by trivial) ih)))
theorem sameItems (l:List S34) (hl:l.length≤1099511627776):Ev (fun k=>laws_sameItems.f k l l) true:=by
  unfold laws_sameItems.f
  exact evPos rfl (sameItems_l0 l [] hl)
theorem ofL_app (a:ByteArray):∀ (p q:List S34),ofL a (p++q)=ofL a p+ofL a q
  | [],q=>by simp [ofL]
  | x :: p,q=>by
    simp only[List.cons_append,ofL,ofL_app a p q]
    omega
theorem ofL_none (a:ByteArray):∀ (p:List S34),(∀ x∈p,x.f0.toList≠a.toList)→ofL a p=0
  | [],_=>rfl
  | x :: p,h=>by
    simp only[ofL]
    rw[if_neg (h x List.mem_cons_self),ofL_none a p (fun y hy=>h y (List.mem_cons_of_mem _ hy))]
    rfl
theorem okB_topic (x:S34) (h:small x) (hb:okB x=true):0≤x.f1:=by
  have h1:=okB_spec x h.1 (x.f0.size+4) (by omega)
  rw[hb] at h1
  unfold spec_ItemOk.f at h1
  obtain⟨b,_,h1⟩:=Option.bind_eq_some_iff.1 h1
  cases b with
  | false=>rw[if_neg (by simp)] at h1;cases h1
  | true=>
    rw[if_pos rfl,specIn,Option.bind_some] at h1
    by_cases c:0≤x.f1∧x.f1≤9
    · exact c.1
    · rw[if_neg (by simpa using c)] at h1
      cases h1
theorem queueL_ok (L:List S34):∀ (rest pre:List S34),queueL L rest pre=true→∀ x∈rest,okB x=true
  | [],_,_,x,hx=>by simp at hx
  | y :: rest,pre,h,x,hx=>by
    simp only[queueL,Bool.and_eq_true] at h
    rcases List.mem_cons.1 hx with rfl | hx
    · exact h.1
    · exact queueL_ok L rest _ h.2.2.2 x hx
/-- How many items are like one. -/
def cntL (a:ByteArray) (n:Int):List S34→Int
  | []=>0
  | y :: l=>(if likeI a n y=true then 1 else 0)+cntL a n l
theorem cntL_app (a:ByteArray) (n:Int):∀ (p q:List S34),cntL a n (p++q)=cntL a n p+cntL a n q
  | [],q=>by simp [cntL]
  | x :: p,q=>by
    simp only[List.cons_append,cntL,cntL_app a n p q]
    omega
theorem cntL_none (a:ByteArray) (n:Int):∀ (p:List S34),(∀ x∈p,likeI a n x=false)→cntL a n p=0
  | [],_=>rfl
  | x :: p,h=>by
    simp only[cntL]
    rw[if_neg (by rw[h x List.mem_cons_self];decide),cntL_none a n p (fun y hy=>h y (List.mem_cons_of_mem _ hy))]
    rfl
theorem countOk (a:ByteArray) (n m:Int) (b:List Int) (Q P:List S34) (hP:P=Q++[⟨a,n,m,b⟩]) (hl:P.length≤1048578) (hs:∀ x∈P,small x) (hq:queueOkL P=true):∀ (rest pre:List S34) (c:Int),P=pre++rest→0≤c→c≤pre.length→(n=0∨c+cntL a n rest=1)→
    (n=0∨0<n)→Ev (fun k=>laws_FnQueues.l1 k P c (pre.length:Nat) a n m b) true
  | [],pre,c,e,h0,hc,hn,hp=>by
    have hlen:P.length=Q.length+1:=by rw[hP];simp
    have e1:wrap64 ((P.length:Int) - 1)=(Q.length:Int):=by rw[hlen,wrap_eq _ (by omega) (by omega)];omega
    have e2:rd_T34 P ((Q.length:Nat):Int)=⟨a,n,m,b⟩:=by rw[hP];exact rdT34_mid Q ⟨a,n,m,b⟩ []
    have e3:=sameItem ⟨a,n,m,b⟩
    have hI:=implQueueOk P (by omega) (fun x hx=>(hs x hx).1)
    rw[hq] at hI
    refine evUp ?_
    simp only[laws_FnQueues.l1,e1,e2]
    simp only[e3,Option.bind_some]
    refine evNeg (by rw[e];simp) (evBind hI (evPos rfl (evPos (by omega) (evPos (by omega) (evPos (by trivial) ?_)))))
    by_cases c0:n=0
    · exact evPos c0 (evConst _)
    · refine evNeg c0 ?_
      rcases hn with hn | hn
      · exact absurd hn c0
      · simp only[cntL] at hn
        have:(c==1)=true:=beq_iff_eq.2 (by omega)
        rw[this];exact evConst _
  | y :: rest,pre,c,e,h0,hc,hn,hp=>by
    have hl2:P.length=pre.length+(rest.length+1):=by rw[e];simp
    have es:wrap64 ((pre.length:Int)+1)=(((pre++[y]).length:Nat):Int):=wrap_step pre y (by omega)
    have e2:rd_T34 P ((pre.length:Nat):Int)=y:=by rw[e];exact rdT34_mid pre y rest
    have ih:=fun(c2:Int) h=>countOk a n m b Q P hP hl hs hq rest (pre++[y]) c2 (by rw[e];simp) h
    have e5:(((pre++[y]).length:Nat):Int)=(pre.length:Int)+1:=by simp
    refine evUp ?_
    simp only[laws_FnQueues.l1,e2,es]
    refine evPos (by omega) ?_
    by_cases c0:n>0
    · refine evPos c0 (evPos (by omega) ?_)
      by_cases c1:y.f0.toList=a.toList
      · refine evPos c1 ?_
        by_cases c2:y.f1=n
        · refine evPos c2 ?_
          have hlk:likeI a n y=true:=by unfold likeI;rw[beq_iff_eq.2 c1,beq_iff_eq.2 c2];rfl
          rw[wrap_eq (c+1) (by omega) (by omega)]
          refine ih (c+1) (by omega) (by omega) ?_ hp
          rcases hn with hn | hn
          · exact .inl hn
          · simp only[cntL] at hn
            rw[if_pos hlk] at hn
            exact .inr (by omega)
        · refine evNeg c2 (ih c h0 (by omega) ?_ hp)
          have hlk:likeI a n y=false:=by unfold likeI;rw[beq_eq_false_iff_ne.2 c2,Bool.and_false]
          rcases hn with hn | hn
          · exact .inl hn
          · simp only[cntL] at hn
            rw[if_neg (by rw[hlk];decide)] at hn
            exact .inr (by omega)
      · refine evNeg c1 (ih c h0 (by omega) ?_ hp)
        have hlk:likeI a n y=false:=by unfold likeI;rw[beq_eq_false_iff_ne.2 c1,Bool.false_and]
        rcases hn with hn | hn
        · exact .inl hn
        · simp only[cntL] at hn
          rw[if_neg (by rw[hlk];decide)] at hn
          exact .inr (by omega)
    · refine evNeg c0 (ih c h0 (by omega) ?_ hp)
      exact .inl (by omega)
/-- What was put. -/
theorem putOk (L:List S34) (a:ByteArray) (n m:Int) (b:List Int) (hl:L.length≤1048577) (hs:∀ x∈L,small x) (hx:small ⟨a,n,m,b⟩):
    Ev (fun k=>laws_FnQueues.j2 k L (putL L a n m b).1 (putL L a n m b).2 false a n m b) true:=by
  refine evUp ?_
  simp only[laws_FnQueues.j2]
  refine evNeg (by simp) ?_
  have hpl:=putI_len a n L
  by_cases c:queueOkL (putI a n L++[⟨a,n,m,b⟩])=true
  · have hp:putL L a n m b=(putI a n L++[⟨a,n,m,b⟩],true):=by unfold putL;rw[if_pos c]
    rw[hp]
    refine evPos rfl ?_
    have hok:okB ⟨a,n,m,b⟩=true:=by
      have h:=c
      unfold queueOkL at h
      rw[Bool.and_eq_true] at h
      exact queueL_ok _ _ _ h.1 _ (by simp)
    have h0:=okB_topic _ hx hok
    have h0:0≤n:=h0
    refine countOk a n m b (putI a n L) _ rfl (by simp;omega) (fun y hy=>?_) c (putI a n L++[⟨a,n,m,b⟩]) [] 0 rfl (Int.le_refl _) (by simp) ?_ (by omega)
    · rcases List.mem_append.1 hy with h | h
      · exact hs y (putI_mem h)
      · rw[List.mem_singleton.1 h];exact hx
    · by_cases c0:n=0
      · exact .inl c0
      · refine .inr ?_
        have hlk:likeI a n (⟨a,n,m,b⟩:S34)=true:=by unfold likeI;simp
        have hnone:∀ x∈putI a n L,likeI a n x=false:=by
          intro x hx
          unfold putI at hx
          rw[if_pos (by omega)] at hx
          have:=(List.mem_filter.1 hx).2
          simpa using this
        rw[cntL_app,cntL_none a n _ hnone]
        simp only[cntL]
        rw[if_pos hlk];omega
  · have hp:putL L a n m b=(L,false):=by unfold putL;rw[if_neg c]
    rw[hp]
    exact evNeg (by simp) (evBind (sameItems L (by omega)) (evConst _))
theorem dueOk (L P:List S34) (q6:Bool) (T:List S34) (a:ByteArray) (U:List S34) (u:Bool) (n:Int) (D:List S34) (x0:ByteArray) (x1 x2:Int) (x3:List Int) (y0:ByteArray) (y1 y2:Int) (y3:List Int) (hl:D.length≤1048577) (hd:∀ x∈D,¬x.f2<n)
    (hT:T.length≤1048577) (hU:(y0,y1,y2,y3,U,u)=takeL a T []) (hj:Ev (fun k=>laws_FnQueues.j2 k L P q6 false x0 x1 x2 x3) true):∀ (rest pre:List S34),D=pre++rest→
    Ev (fun k=>laws_FnQueues.l0 k L P q6 T a U u n D (pre.length:Nat) x0 x1 x2 x3 y0 y1 y2 y3) true
  | [],pre,e=>by
    refine evUp ?_
    simp only[laws_FnQueues.l0]
    refine evNeg (by rw[e];simp) ?_
    have hof:∀ (q:List S34),q.length≤1048577→Ev (fun k=>impl_Of.f k q a) (ofL a q):=fun q hq=>evOf q.length fun k hk=>implOf q a (by omega) k hk
    refine evBind (hof T hT) ?_
    rcases takeL_cases a T with ⟨h,_,hm⟩ | ⟨p,r,x,eT,hx,hp,_,h⟩
    · rw[h] at hU
      simp only[Prod.mk.injEq] at hU
      obtain⟨rfl,rfl,rfl,rfl,rfl,rfl⟩:=hU
      rw[ofL_none a _ hm]
      exact evNeg (by simp) (evNeg (by simp) hj)
    · rw[h] at hU
      simp only[Prod.mk.injEq] at hU
      obtain⟨rfl,rfl,rfl,rfl,rfl,rfl⟩:=hU
      have hpr:T.length=p.length+(r.length+1):=by rw[eT];simp
      have hof1:ofL a T=1+ofL a r:=by
        rw[eT,ofL_app,ofL_none a p hp]
        simp only[ofL]
        rw[if_pos hx];omega
      have hof2:ofL a (p++r)=ofL a r:=by rw[ofL_app,ofL_none a p hp];omega
      have hb:=ofL_bounds a r
      rw[hof1]
      refine evNeg ?_ (evPos rfl (evPos hx (evBind (hof (p++r) (by simp;omega)) (evBind (hof T hT) ?_))))
      · have:decide (1+ofL a r>0)=true:=decide_eq_true (by omega)
        rw[this];simp
      · rw[hof1,hof2,wrap_eq _ (by omega) (by omega)]
        have:(ofL a r != 1+ofL a r - 1)=false:=bne_eq_false_iff_eq.2 (by omega)
        rw[this];exact hj
  | x :: rest,pre,e=>by
    have hl2:D.length=pre.length+(rest.length+1):=by rw[e];simp
    have es:wrap64 ((pre.length:Int)+1)=(((pre++[x]).length:Nat):Int):=wrap_step pre x (by omega)
    have e2:rd_T34 D ((pre.length:Nat):Int)=x:=by rw[e];exact rdT34_mid pre x rest
    refine evUp ?_
    simp only[laws_FnQueues.l0,e2,es]
    exact evPos (by omega) (evPos (by omega) (evNeg (hd x (by rw[e];simp)) (dueOk L P q6 T a U u n D x0 x1 x2 x3 y0 y1 y2 y3 hl hd hT hU hj rest (pre++[x]) (by rw[e];simp))))
theorem FnQueues:laws_FnQueues.Pure:=by
  intro l hl _ _
  refine Ev.rounds ?_
  unfold laws_FnQueues.f laws_big.f
  simp only[Option.bind_some]
  by_cases hbig:(l.length:Int)>1048576
  · exact evPos (decide_eq_true hbig) (evConst _)
  · refine evNeg (by simpa using hbig) ?_
    have hd:l.length≤1099511627776:=by omega
    obtain⟨L,a,n,m,b,e1,hl1,hs1,hx1⟩:=drawPut l hd
    obtain⟨T,t,e2,hl2,hs2,ht2⟩:=drawTake l hd
    obtain⟨D,n3,e3,hl3,hs3⟩:=drawDue l hd
    obtain⟨O,o,e4,hl4,hs4,ht4⟩:=drawOf l hd
    obtain⟨Q,e5,hl5,hs5⟩:=drawQueueOk l hd
    obtain⟨i0,i1,i2,i3,e6,hx6⟩:=drawItemOk l hd
    have hp:=putL_len L a n m b
    have htl:(takeL t T []).2.2.2.2.1.length≤T.length:=by
      rcases takeL_cases t T with ⟨h,_,_⟩ | ⟨p,r,x,eT,_,_,_,h⟩
      · rw[h];exact Nat.le_refl _
      · rw[h,eT];simp
    have hdl:(dueL n3 D).length≤D.length:=List.length_filter_le _ _
    refine evBind e1 (evBind (implPut a n m b hx1 L (by omega) hs1) (evBind (specPut a n m b hx1 L (by omega) hs1) (evBind e2 (evBind (implTake t T (by omega) hs2) (evBind (specTake t T (by omega) hs2) (evBind e3 (evBind (implDue n3 D hs3 (by omega)) (evBind e4 (evBind e5 (evBind e6 ?_))))))))))
    refine evNeg (by simp) (evBind (sameItems _ (by omega)) (evPos rfl (evNeg (by simp) ?_)))
    have hsi:laws_sameItem.f (takeL t T []).1 (takeL t T []).2.1 (takeL t T []).2.2.1 (takeL t T []).2.2.2.1 (takeL t T []).1 (takeL t T []).2.1 (takeL t T []).2.2.1 (takeL t T []).2.2.2.1=some true:=sameItem ⟨_,_,_,_⟩
    simp only[hsi,Option.bind_some]
    have hof:∀ (q:List S34) (a:ByteArray),q.length≤1048577→Ev (fun k=>impl_Of.f k q a) (ofL a q):=fun q a hq=>evOf q.length fun k hk=>implOf q a (by omega) k hk
    have hof2:∀ (q:List S34) (a:ByteArray),q.length≤1048577→Ev (fun k=>spec_Of.f k q a) (ofL a q):=fun q a hq=>evOf q.length fun k hk=>specOf q a (by omega) k hk
    refine evPos (by trivial) (evBind (sameItems _ (by omega)) (evPos rfl (evBind (specDue n3 D hs3 (by omega)) (evBind (sameItems _ (by omega)) (evPos rfl (evBind (hof O o (by omega)) (evBind (hof2 O o (by omega)) (evPos rfl (evBind (implQueueOk Q (by omega) (fun x hx=>(hs5 x hx).1)) (evBind (specQueueOk Q (by omega) (fun x hx=>(hs5 x hx).1)) (evNeg (by simp) ?_)))))))))))
    refine evBind (a:=okB ⟨i0,i1,i2,i3⟩) (evOf _ fun k hk=>okB_impl ⟨i0,i1,i2,i3⟩ hx6.1 k hk) (evBind (a:=okB ⟨i0,i1,i2,i3⟩) (evOf _ fun k hk=>okB_spec ⟨i0,i1,i2,i3⟩ hx6.1 k hk) ?_)
    refine evUp ?_
    simp only[laws_FnQueues.j0]
    refine evNeg (by simp) ?_
    exact dueOk L _ _ T t _ _ n3 (dueL n3 D) a n m b _ _ _ _ (by omega) (fun x hx=>dueL_due hx) (by omega) rfl (putOk L a n m b (by omega) hs1 hx1) _ [] rfl
end Go.Proofs.Ytlalkldjpniakaa.Pure
