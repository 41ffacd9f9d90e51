/-
  The functions of the program compute what their Lean functions say. No condition.
-/
import Derived.Test.YtknnphhepnbaoaaGreatDoorFn
import Derived.Test.YtknnphhepnbaoaaGreatDoorRows
namespace Go.Proofs.YtknnphhepnbaoaaGreatDoor
open Go.Sm
set_option maxRecDepth 100000
set_option linter.unusedSectionVars false
instance:XTab:=⟨fun _=>TypeId×Value,fun _ x=>.iface x.1 x.2,fun _ _=>rfl,fun _=>(0, .bool true)⟩
abbrev T_api_Name:TC:=.pair (.sc (.int .i64)) ((.sc (.int .i64)))
abbrev T_api_Ratio:TC:=.pair (.slice (.sc (.int .u32))) ((.slice (.sc (.int .u32))))
abbrev T_api_Verdict:TC:=.pair (.sc (.int .i64)) (.pair (.sc .str) (.pair (.slice (.slice T_api_Name)) (.pair (.slice (.sc (.int .i64))) (.pair (.sc (.int .i64)) T_api_Ratio))))
abbrev T_api_Env:TC:=.pair (.sc (.int .i64)) (.pair (.sc (.int .i64)) ((.sc (.int .i64))))
abbrev T_api_Ask:TC:=.pair (.arr 16 (.int .u8)) (.pair (.sc .str) (.pair T_api_Env ((.sc (.int .i64)))))
abbrev T_api_Cost:TC:=.pair (.sc (.int .i64)) (.pair (.sc (.int .i64)) ((.sc (.int .i64))))
abbrev T_api_Result:TC:=.pair (.sc (.int .i64)) (.pair (.sc .str) (.pair (.sc (.int .i64)) (.pair T_api_Cost ((.arr 16 (.int .u8))))))
abbrev T_api_Answer:TC:=.pair (.sc (.int .i64)) (.pair (.sc (.int .i64)) (.pair T_api_Ask (.pair T_api_Result ((.sc .str)))))
abbrev T_s84:TC:=.pair (.sc .str) (.pair (.sc .str) (.pair (.sc .bool) (.pair (.sc .bool) ((.sc .bool)))))
variable [Vars]
instance:GTab:=⟨[⟨0,T_s84,kindsTab⟩,⟨1, .sc (.int .u64),Lib.pow10Tab⟩,⟨2, .sc (.int .i64),[Vars.m]⟩,⟨6, .ext 0,[Vars.e1]⟩,⟨7, .ext 0,[Vars.e2]⟩]⟩
def ti3:TInf:=⟨.int .i64,1,8,[.c (.int .i64) (0:Int)],(.sc (.int .i64))⟩
def ti4:TInf:=⟨.bool,1,1,[.c .bool false],(.sc .bool)⟩
def ti5:TInf:=⟨.int .u8,1,1,[.c (.int .u8) (0:Int)],(.sc (.int .u8))⟩
def ti9:TInf:=⟨.str,1,16,[.c .str ([]:List UInt8)],(.sc .str)⟩
def ti22:TInf:=⟨.slice 35,1,24,[.nl],(.slice T_api_Answer)⟩
def ti25:TInf:=⟨.st [(3,0),(3,1),(3,2)],3,24,[.c (.int .i64) (0:Int), .c (.int .i64) (0:Int), .c (.int .i64) (0:Int)],T_api_Cost⟩
def ti27:TInf:=⟨.arr 16 5,16,16,[.ar 16 (.int .u8) ([]:List Int)],(.arr 16 (.int .u8))⟩
def ti29:TInf:=⟨.st [(3,0),(9,1),(3,2),(25,3),(27,6)],22,72,[.c (.int .i64) (0:Int), .c .str ([]:List UInt8), .c (.int .i64) (0:Int), .c (.int .i64) (0:Int), .c (.int .i64) (0:Int), .c (.int .i64) (0:Int), .ar 16 (.int .u8) ([]:List Int)],T_api_Result⟩
def ti31:TInf:=⟨.st [(3,0),(3,1),(3,2)],3,24,[.c (.int .i64) (0:Int), .c (.int .i64) (0:Int), .c (.int .i64) (0:Int)],T_api_Env⟩
def ti33:TInf:=⟨.st [(27,0),(9,16),(31,17),(3,20)],21,64,[.ar 16 (.int .u8) ([]:List Int), .c .str ([]:List UInt8), .c (.int .i64) (0:Int), .c (.int .i64) (0:Int), .c (.int .i64) (0:Int), .c (.int .i64) (0:Int)],T_api_Ask⟩
def ti35:TInf:=⟨.st [(3,0),(3,1),(33,2),(29,23),(9,45)],46,168,[.c (.int .i64) (0:Int), .c (.int .i64) (0:Int), .ar 16 (.int .u8) ([]:List Int), .c .str ([]:List UInt8), .c (.int .i64) (0:Int), .c (.int .i64) (0:Int), .c (.int .i64) (0:Int), .c (.int .i64) (0:Int), .c (.int .i64) (0:Int), .c .str ([]:List UInt8), .c (.int .i64) (0:Int), .c (.int .i64) (0:Int), .c (.int .i64) (0:Int), .c (.int .i64) (0:Int), .ar 16 (.int .u8) ([]:List Int), .c .str ([]:List UInt8)],T_api_Answer⟩
def ti38:TInf:=⟨.slice 3,1,24,[.nl],(.slice (.sc (.int .i64)))⟩
def ti39:TInf:=⟨.slice 77,1,24,[.nl],(.slice (.slice T_api_Name))⟩
def ti40:TInf:=⟨.slice 78,1,24,[.nl],(.slice (.sc (.int .u32)))⟩
def ti42:TInf:=⟨.st [(40,0),(40,1)],2,48,[.nl, .nl],T_api_Ratio⟩
def ti44:TInf:=⟨.st [(3,0),(9,1),(39,2),(38,3),(3,4),(42,5)],7,128,[.c (.int .i64) (0:Int), .c .str ([]:List UInt8), .nl, .nl, .c (.int .i64) (0:Int), .nl, .nl],T_api_Verdict⟩
def ti46:TInf:=⟨.slice 9,1,24,[.nl],(.slice (.sc .str))⟩
def ti47:TInf:=⟨.int .i64,1,8,[.c (.int .i64) (0:Int)],(.sc (.int .i64))⟩
def ti56:TInf:=⟨.slice 46,1,24,[.nl],(.slice (.slice (.sc .str)))⟩
def ti60:TInf:=⟨.slice 44,1,24,[.nl],(.slice T_api_Verdict)⟩
def ti63:TInf:=⟨.slice 60,1,24,[.nl],(.slice (.slice T_api_Verdict))⟩
def ti70:TInf:=⟨.slice 5,1,24,[.nl],(.slice (.sc (.int .u8)))⟩
def ti74:TInf:=⟨.other,1,8,[.v (.nilFunc)],(.sc .fnc)⟩
def ti76:TInf:=⟨.st [(3,0),(3,1)],2,16,[.c (.int .i64) (0:Int), .c (.int .i64) (0:Int)],T_api_Name⟩
def ti77:TInf:=⟨.slice 76,1,24,[.nl],(.slice T_api_Name)⟩
def ti78:TInf:=⟨.int .u32,1,4,[.c (.int .u32) (0:Int)],(.sc (.int .u32))⟩
def ti84:TInf:=⟨.st [(9,0),(9,1),(4,2),(4,3),(4,4)],5,40,[.c .str ([]:List UInt8), .c .str ([]:List UInt8), .c .bool false, .c .bool false, .c .bool false],T_s84⟩
def ti85:TInf:=⟨.arr 6 84,30,240,[.c .str ([]:List UInt8), .c .str ([]:List UInt8), .c .bool false, .c .bool false, .c .bool false, .c .str ([]:List UInt8), .c .str ([]:List UInt8), .c .bool false, .c .bool false, .c .bool false, .c .str ([]:List UInt8), .c .str ([]:List UInt8), .c .bool false, .c .bool false, .c .bool false, .c .str ([]:List UInt8), .c .str ([]:List UInt8), .c .bool false, .c .bool false, .c .bool false, .c .str ([]:List UInt8), .c .str ([]:List UInt8), .c .bool false, .c .bool false, .c .bool false, .c .str ([]:List UInt8), .c .str ([]:List UInt8), .c .bool false, .c .bool false, .c .bool false], .unit⟩
def ti87:TInf:=⟨.other,1,8,[.v (.nilFunc)],(.sc .fnc)⟩
def ti93:TInf:=⟨.other,1,8,[.v (.nilFunc)],(.sc .fnc)⟩
def ti97:TInf:=⟨.slice 99,1,24,[.nl],(.slice (.sc .fnc))⟩
def ti99:TInf:=⟨.other,1,8,[.v (.nilFunc)],(.sc .fnc)⟩
def ti100:TInf:=⟨.ptr 44,1,8,[.v (.pointer none)], .unit⟩
def ti111:TInf:=⟨.slice 42,1,24,[.nl],(.slice T_api_Ratio)⟩
def ti120:TInf:=⟨.other,1,16,[.v (.nilIface)], .unit⟩
def ti133:TInf:=⟨.other,1,8,[.v (.nilFunc)],(.sc .fnc)⟩
def ti143:TInf:=⟨.other,1,8,[.v (.nilFunc)],(.sc .fnc)⟩
def ti146:TInf:=⟨.other,1,8,[.v (.nilFunc)],(.sc .fnc)⟩
def ti161:TInf:=⟨.int .u64,1,8,[.c (.int .u64) (0:Int)],(.sc (.int .u64))⟩
def ti165:TInf:=⟨.other,1,8,[.v (.nilFunc)],(.sc .fnc)⟩
def ti172:TInf:=⟨.arr 626 5,626,626,[.ar 626 (.int .u8) ([]:List Int)],(.arr 626 (.int .u8))⟩
def ti188:TInf:=⟨.int .u64,1,8,[.c (.int .u64) (0:Int)],(.sc (.int .u64))⟩
def tb:List (TypeId×TInf):=[(3,ti3),(4,ti4),(5,ti5),(9,ti9),(22,ti22),(25,ti25),(27,ti27),(29,ti29),(31,ti31),(33,ti33),(35,ti35),(38,ti38),(39,ti39),(40,ti40),(42,ti42),(44,ti44),(46,ti46),(47,ti47),(56,ti56),(60,ti60),(63,ti63),(70,ti70),(74,ti74),(76,ti76),(77,ti77),(78,ti78),(84,ti84),(85,ti85),(87,ti87),(93,ti93),(97,ti97),(99,ti99),(100,ti100),(111,ti111),(120,ti120),(133,ti133),(143,ti143),(146,ti146),(161,ti161),(165,ti165),(172,ti172),(188,ti188)]
theorem ti3_ok:ti3.ok Tryz.prog 3:=⟨by unfold TI; kernel_rfl,Tryz.underlying3,rfl,fun _=>rfl⟩
theorem ti4_ok:ti4.ok Tryz.prog 4:=⟨by unfold TI; kernel_rfl,Tryz.underlying4,rfl,fun _=>rfl⟩
theorem ti5_ok:ti5.ok Tryz.prog 5:=⟨by unfold TI; kernel_rfl,Tryz.underlying5,rfl,fun _=>rfl⟩
theorem ti9_ok:ti9.ok Tryz.prog 9:=⟨by unfold TI; kernel_rfl,Tryz.underlying9,rfl,fun _=>rfl⟩
theorem ti22_ok:ti22.ok Tryz.prog 22:=⟨by unfold TI; kernel_rfl,Tryz.underlying22,rfl,fun _=>rfl⟩
theorem ti25_ok:ti25.ok Tryz.prog 25:=⟨by unfold TI; kernel_rfl,⟨_,Tryz.underlying25,by kernel_rfl⟩,rfl,fun _=>rfl⟩
theorem ti27_ok:ti27.ok Tryz.prog 27:=⟨by unfold TI; kernel_rfl,Tryz.underlying27,rfl,fun _=>rfl⟩
theorem ti29_ok:ti29.ok Tryz.prog 29:=⟨by unfold TI; kernel_rfl,⟨_,Tryz.underlying29,by kernel_rfl⟩,rfl,fun _=>rfl⟩
theorem ti31_ok:ti31.ok Tryz.prog 31:=⟨by unfold TI; kernel_rfl,⟨_,Tryz.underlying31,by kernel_rfl⟩,rfl,fun _=>rfl⟩
theorem ti33_ok:ti33.ok Tryz.prog 33:=⟨by unfold TI; kernel_rfl,⟨_,Tryz.underlying33,by kernel_rfl⟩,rfl,fun _=>rfl⟩
theorem ti35_ok:ti35.ok Tryz.prog 35:=⟨by unfold TI; kernel_rfl,⟨_,Tryz.underlying35,by kernel_rfl⟩,rfl,fun _=>rfl⟩
theorem ti38_ok:ti38.ok Tryz.prog 38:=⟨by unfold TI; kernel_rfl,Tryz.underlying38,rfl,fun _=>rfl⟩
theorem ti39_ok:ti39.ok Tryz.prog 39:=⟨by unfold TI; kernel_rfl,Tryz.underlying39,rfl,fun _=>rfl⟩
theorem ti40_ok:ti40.ok Tryz.prog 40:=⟨by unfold TI; kernel_rfl,Tryz.underlying40,rfl,fun _=>rfl⟩
theorem ti42_ok:ti42.ok Tryz.prog 42:=⟨by unfold TI; kernel_rfl,⟨_,Tryz.underlying42,by kernel_rfl⟩,rfl,fun _=>rfl⟩
theorem ti44_ok:ti44.ok Tryz.prog 44:=⟨by unfold TI; kernel_rfl,⟨_,Tryz.underlying44,by kernel_rfl⟩,rfl,fun _=>rfl⟩
theorem ti46_ok:ti46.ok Tryz.prog 46:=⟨by unfold TI; kernel_rfl,Tryz.underlying46,rfl,fun _=>rfl⟩
theorem ti47_ok:ti47.ok Tryz.prog 47:=⟨by unfold TI; kernel_rfl,Tryz.underlying47,rfl,fun _=>rfl⟩
theorem ti56_ok:ti56.ok Tryz.prog 56:=⟨by unfold TI; kernel_rfl,Tryz.underlying56,rfl,fun _=>rfl⟩
theorem ti60_ok:ti60.ok Tryz.prog 60:=⟨by unfold TI; kernel_rfl,Tryz.underlying60,rfl,fun _=>rfl⟩
theorem ti63_ok:ti63.ok Tryz.prog 63:=⟨by unfold TI; kernel_rfl,Tryz.underlying63,rfl,fun _=>rfl⟩
theorem ti70_ok:ti70.ok Tryz.prog 70:=⟨by unfold TI; kernel_rfl,Tryz.underlying70,rfl,fun _=>rfl⟩
theorem ti74_ok:ti74.ok Tryz.prog 74:=⟨by unfold TI; kernel_rfl,⟨_,Tryz.underlying74,rfl⟩,rfl,fun _=>rfl⟩
theorem ti76_ok:ti76.ok Tryz.prog 76:=⟨by unfold TI; kernel_rfl,⟨_,Tryz.underlying76,by kernel_rfl⟩,rfl,fun _=>rfl⟩
theorem ti77_ok:ti77.ok Tryz.prog 77:=⟨by unfold TI; kernel_rfl,Tryz.underlying77,rfl,fun _=>rfl⟩
theorem ti78_ok:ti78.ok Tryz.prog 78:=⟨by unfold TI; kernel_rfl,Tryz.underlying78,rfl,fun _=>rfl⟩
theorem ti84_ok:ti84.ok Tryz.prog 84:=⟨by unfold TI; kernel_rfl,⟨_,Tryz.underlying84,by kernel_rfl⟩,rfl,fun _=>rfl⟩
theorem ti85_ok:ti85.ok Tryz.prog 85:=⟨by unfold TI; kernel_rfl,Tryz.underlying85,rfl,fun _=>rfl⟩
theorem ti87_ok:ti87.ok Tryz.prog 87:=⟨by unfold TI; kernel_rfl,⟨_,Tryz.underlying87,rfl⟩,rfl,fun _=>rfl⟩
theorem ti93_ok:ti93.ok Tryz.prog 93:=⟨by unfold TI; kernel_rfl,⟨_,Tryz.underlying93,rfl⟩,rfl,fun _=>rfl⟩
theorem ti97_ok:ti97.ok Tryz.prog 97:=⟨by unfold TI; kernel_rfl,Tryz.underlying97,rfl,fun _=>rfl⟩
theorem ti99_ok:ti99.ok Tryz.prog 99:=⟨by unfold TI; kernel_rfl,⟨_,Tryz.underlying99,rfl⟩,rfl,fun _=>rfl⟩
theorem ti100_ok:ti100.ok Tryz.prog 100:=⟨by unfold TI; kernel_rfl,Tryz.underlying100,rfl,fun _=>rfl⟩
theorem ti111_ok:ti111.ok Tryz.prog 111:=⟨by unfold TI; kernel_rfl,Tryz.underlying111,rfl,fun _=>rfl⟩
theorem ti120_ok:ti120.ok Tryz.prog 120:=⟨by unfold TI; kernel_rfl,⟨_,Tryz.underlying120,rfl⟩,rfl,fun _=>rfl⟩
theorem ti133_ok:ti133.ok Tryz.prog 133:=⟨by unfold TI; kernel_rfl,⟨_,Tryz.underlying133,rfl⟩,rfl,fun _=>rfl⟩
theorem ti143_ok:ti143.ok Tryz.prog 143:=⟨by unfold TI; kernel_rfl,⟨_,Tryz.underlying143,rfl⟩,rfl,fun _=>rfl⟩
theorem ti146_ok:ti146.ok Tryz.prog 146:=⟨by unfold TI; kernel_rfl,⟨_,Tryz.underlying146,rfl⟩,rfl,fun _=>rfl⟩
theorem ti161_ok:ti161.ok Tryz.prog 161:=⟨by unfold TI; kernel_rfl,Tryz.underlying161,rfl,fun _=>rfl⟩
theorem ti165_ok:ti165.ok Tryz.prog 165:=⟨by unfold TI; kernel_rfl,⟨_,Tryz.underlying165,rfl⟩,rfl,fun _=>rfl⟩
theorem ti172_ok:ti172.ok Tryz.prog 172:=⟨by unfold TI; kernel_rfl,Tryz.underlying172,rfl,fun _=>rfl⟩
theorem ti188_ok:ti188.ok Tryz.prog 188:=⟨by unfold TI; kernel_rfl,Tryz.underlying188,rfl,fun _=>rfl⟩
theorem tb_ok:Tb.ok (tbl tb) Tryz.prog:=tbl_ok ⟨ti3_ok,ti4_ok,ti5_ok,ti9_ok,ti22_ok,ti25_ok,ti27_ok,ti29_ok,ti31_ok,ti33_ok,ti35_ok,ti38_ok,ti39_ok,ti40_ok,ti42_ok,ti44_ok,ti46_ok,ti47_ok,ti56_ok,ti60_ok,ti63_ok,ti70_ok,ti74_ok,ti76_ok,ti77_ok,ti78_ok,ti84_ok,ti85_ok,ti87_ok,ti93_ok,ti97_ok,ti99_ok,ti100_ok,ti111_ok,ti120_ok,ti133_ok,ti143_ok,ti146_ok,ti161_ok,ti165_ok,ti172_ok,ti188_ok,trivial⟩
def eqG_ (t:TypeId):Bool:=[76].any fun k=>Nat.beq t k
theorem eqg76:EqOk Tryz.prog 76:=⟨by kernel_rfl,by kernel_rfl,by kernel_rfl⟩
theorem eqG_ok (t:TypeId) (h:eqG_ t=true):EqOk Tryz.prog t:=by
 obtain ⟨k,hk,he⟩:=List.any_eq_true.1 h
 have:=Nat.eq_of_beq_eq_true he
 subst this
 simp only [List.mem_cons,List.not_mem_nil,or_false] at hk
 rcases hk with rfl <;> first | exact eqg76
theorem mixed:Tryz.prog.follows .mixedOrders=true:=by kernel_rfl
def cx0:Cx:=⟨fun _=>[],tbl tb,eqG_,[],false⟩
theorem cx0_ok:cx0.ok Tryz.prog:=⟨fun _ _ h=>(by cases h),tb_ok,eqG_ok,fun _ h=>(by cases h)⟩
end Go.Proofs.YtknnphhepnbaoaaGreatDoor
