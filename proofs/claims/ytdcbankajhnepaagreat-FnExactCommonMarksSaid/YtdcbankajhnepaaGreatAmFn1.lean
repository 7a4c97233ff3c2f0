/- Functions, as they run on data. No condition. -/
import Derived.Test.YtdcbankajhnepaaGreatAmFn0
set_option linter.unusedVariables false
set_option maxRecDepth 100000
namespace Go.Proofs.YtdcbankajhnepaaGreat.Am
open Go.AM Go.AM.P Go.Proofs Go.Shelf
noncomputable def E90:Env:={ tab:=tab }
theorem r90 (N:Nat) (a0:Int) (a1:Int) (a2:Int):runF N E90 Tryz.f90 [.imm false Y1,.imm false Y1,.imm false Y1] [.imm false .bool] (a0,a1,a2,()) = p_spec_l1In N a0 a1 a2:=by kernel_rfl
noncomputable def s90:FSpec:=⟨[.imm false Y1,.imm false Y1,.imm false Y1],[.imm false .bool],fun x=>S_spec_l1In x.1 x.2.1 x.2.2.1,true⟩
theorem ok90:FnS Tryz.prog fa 90 s90:=fnAll (E:=E90) mixed tabOk trivial Tryz.func90 (by kernel_rfl) rfl fun x y h=>⟨0,(r90 0 x.1 x.2.1 x.2.2.1).trans h⟩
noncomputable def E218:Env:={ tab:=tab,sig:=[(90,s90)] }
theorem r218 (N:Nat) (a0:Int) (a1:Int) (a2:Int):runF N E218 Tryz.f218 [.imm false Y1,.imm false Y1,.imm false Y1] [.imm false .bool] (a0,a1,a2,()) = p_spec_l3Inst N a0 a1 a2:=by kernel_rfl
noncomputable def s218:FSpec:=⟨[.imm false Y1,.imm false Y1,.imm false Y1],[.imm false .bool],fun x=>S_spec_l3Inst x.1 x.2.1 x.2.2.1,true⟩
theorem ok218:FnS Tryz.prog fa 218 s218:=fnAll (E:=E218) mixed tabOk ⟨ok90,trivial⟩ Tryz.func218 (by kernel_rfl) rfl fun x y h=>⟨0,(r218 0 x.1 x.2.1 x.2.2.1).trans h⟩
noncomputable def E298:Env:={ tab:=tab,sig:=[(90,s90)] }
theorem r298 (N:Nat) (a0:Int):runF N E298 Tryz.f298 [.imm false Y1] [.imm false .bool] (a0,()) = p_spec_l2Account N a0:=by kernel_rfl
noncomputable def s298:FSpec:=⟨[.imm false Y1],[.imm false .bool],fun x=>S_spec_l2Account x.1,true⟩
theorem ok298:FnS Tryz.prog fa 298 s298:=fnAll (E:=E298) mixed tabOk ⟨ok90,trivial⟩ Tryz.func298 (by kernel_rfl) rfl fun x y h=>⟨0,(r298 0 x.1).trans h⟩
noncomputable def E273:Env:={ tab:=tab,sig:=[(298,s298),(90,s90)] }
theorem r273 (N:Nat) (a0:T2):runF N E273 Tryz.f273 [.imm true Y25] [.imm false Y1] (a0,()) = p_spec_l2Code N a0:=by kernel_rfl
noncomputable def s273:FSpec:=⟨[.imm true Y25],[.imm false Y1],fun x=>S_spec_l2Code x.1,true⟩
theorem ok273:FnS Tryz.prog fa 273 s273:=fnAll (E:=E273) mixed tabOk ⟨ok298,ok90,trivial⟩ Tryz.func273 (by kernel_rfl) rfl fun x y h=>⟨0,(r273 0 x.1).trans h⟩
noncomputable def E220:Env:={ tab:=tab,sig:=[(273,s273)],eqs:=[(137,[false,false,false,false,false])] }
theorem r220 (N:Nat) (a0:T2):runF N E220 Tryz.f220 [.imm true Y25] [.imm false .bool] (a0,()) = p_spec_GoodCmd N a0:=by kernel_rfl
noncomputable def s220:FSpec:=⟨[.imm true Y25],[.imm false .bool],fun x=>S_spec_GoodCmd x.1,true⟩
theorem ok220:FnS Tryz.prog fa 220 s220:=fnAll (E:=E220) (h4:=⟨eq137,trivial⟩) mixed tabOk ⟨ok273,trivial⟩ Tryz.func220 (by kernel_rfl) rfl fun x y h=>⟨0,(r220 0 x.1).trans h⟩
noncomputable def E196:Env:={ tab:=tab,sig:=[(218,s218),(220,s220)],live:=[(0,[0,1,9,10,11,24,25,26,27,30,31,32,33,49,50,51,52,53],[]),(2,[0,1,6,9,10,11,24,25,26,27,30,31,32,33,37,38,39,49,50,51,52,53],[])] }
theorem r196 (N:Nat) (a0:Int) (a1:List T12):runF N E196 Tryz.f196 [.imm false Y1,.imm false Y31] [.imm false .bool] (a0,a1,()) = p_spec_l9Asked N a0 a1:=by kernel_rfl
noncomputable def s196:FSpec:=⟨[.imm false Y1,.imm false Y31],[.imm false .bool],fun x=>S_spec_l9Asked x.1 x.2.1,true⟩
theorem ok196:FnS Tryz.prog fa 196 s196:=fnAll (E:=E196) mixed tabOk ⟨ok218,ok220,trivial⟩ Tryz.func196 (by kernel_rfl) rfl fun x y h=>let ⟨N,hN⟩:=lim_some h; ⟨N,(r196 N x.1 x.2.1).trans hN⟩
noncomputable def E174:Env:={ tab:=tab }
theorem r174 (N:Nat) (a0:Int):runF N E174 Tryz.f174 [.imm false Y1] [.deep true Y15] (a0,()) = p_spec_l3None N a0:=by kernel_rfl
noncomputable def s174:FSpec:=⟨[.imm false Y1],[.deep true Y15],fun x=>S_spec_l3None x.1,true⟩
theorem ok174:FnS Tryz.prog fa 174 s174:=fnAll (E:=E174) mixed tabOk trivial Tryz.func174 (by kernel_rfl) rfl fun x y h=>⟨0,(r174 0 x.1).trans h⟩
noncomputable def E188:Env:={ tab:=tab,live:=[(0,[0,1,12,13],[])] }
theorem r188 (N:Nat) (a0:List Int) (a1:List Int):runF N E188 Tryz.f188 [.imm false Y5,.imm false Y5] [.imm false .bool] (a0,a1,()) = p_spec_l1Same N a0 a1:=by kernel_rfl
noncomputable def s188:FSpec:=⟨[.imm false Y5,.imm false Y5],[.imm false .bool],fun x=>S_spec_l1Same x.1 x.2.1,true⟩
theorem ok188:FnS Tryz.prog fa 188 s188:=fnAll (E:=E188) mixed tabOk trivial Tryz.func188 (by kernel_rfl) rfl fun x y h=>let ⟨N,hN⟩:=lim_some h; ⟨N,(r188 N x.1 x.2.1).trans hN⟩
noncomputable def E219:Env:={ tab:=tab,sig:=[(188,s188)] }
theorem r219 (N:Nat) (a0:T6) (a1:T6):runF N E219 Tryz.f219 [.imm true Y15,.imm true Y15] [.imm false .bool] (a0,a1,()) = p_spec_SameAttr N a0 a1:=by kernel_rfl
noncomputable def s219:FSpec:=⟨[.imm true Y15,.imm true Y15],[.imm false .bool],fun x=>S_spec_SameAttr x.1 x.2.1,true⟩
theorem ok219:FnS Tryz.prog fa 219 s219:=fnAll (E:=E219) mixed tabOk ⟨ok188,trivial⟩ Tryz.func219 (by kernel_rfl) rfl fun x y h=>⟨0,(r219 0 x.1 x.2.1).trans h⟩
noncomputable def E154:Env:={ tab:=tab,sig:=[(90,s90)],live:=[(0,[1,2,9,10,11],[])] }
theorem r154 (N:Nat) (a0:List Int) (a1:Int) (a2:Int):runF N E154 Tryz.f154 [.imm false Y5,.imm false Y1,.imm false Y1] [.imm false .bool] (a0,a1,a2,()) = p_spec_l1All N a0 a1 a2:=by kernel_rfl
noncomputable def s154:FSpec:=⟨[.imm false Y5,.imm false Y1,.imm false Y1],[.imm false .bool],fun x=>S_spec_l1All x.1 x.2.1 x.2.2.1,true⟩
theorem ok154:FnS Tryz.prog fa 154 s154:=fnAll (E:=E154) mixed tabOk ⟨ok90,trivial⟩ Tryz.func154 (by kernel_rfl) rfl fun x y h=>let ⟨N,hN⟩:=lim_some h; ⟨N,(r154 N x.1 x.2.1 x.2.2.1).trans hN⟩
noncomputable def E221:Env:={ tab:=tab,sig:=[(90,s90),(154,s154)] }
theorem r221 (N:Nat) (a0:Int) (a1:T6):runF N E221 Tryz.f221 [.imm false Y1,.imm true Y15] [.imm false .bool] (a0,a1,()) = p_spec_l3Attr N a0 a1:=by kernel_rfl
noncomputable def s221:FSpec:=⟨[.imm false Y1,.imm true Y15],[.imm false .bool],fun x=>S_spec_l3Attr x.1 x.2.1,true⟩
theorem ok221:FnS Tryz.prog fa 221 s221:=fnAll (E:=E221) mixed tabOk ⟨ok90,ok154,trivial⟩ Tryz.func221 (by kernel_rfl) rfl fun x y h=>⟨0,(r221 0 x.1 x.2.1).trans h⟩
noncomputable def E155:Env:={ tab:=tab,sig:=[(90,s90),(174,s174),(219,s219),(220,s220),(221,s221)],eqs:=[(137,[false,false,false,false,false])] }
theorem r155 (N:Nat) (a0:Int) (a1:T7):runF N E155 Tryz.f155 [.imm false Y1,.imm true Y40] [.imm false .bool] (a0,a1,()) = p_spec_l4Row N a0 a1:=by kernel_rfl
noncomputable def s155:FSpec:=⟨[.imm false Y1,.imm true Y40],[.imm false .bool],fun x=>S_spec_l4Row x.1 x.2.1,true⟩
theorem ok155:FnS Tryz.prog fa 155 s155:=fnAll (E:=E155) (h4:=⟨eq137,trivial⟩) mixed tabOk ⟨ok90,ok174,ok219,ok220,ok221,trivial⟩ Tryz.func155 (by kernel_rfl) rfl fun x y h=>⟨0,(r155 0 x.1 x.2.1).trans h⟩
noncomputable def E72:Env:={ tab:=tab,sig:=[(89,s89),(155,s155)],live:=[(0,[1,20,21,22],[]),(2,[1,4,20,21,22,26,27,28],[])] }
theorem r72 (N:Nat) (a0:T8):runF N E72 Tryz.f72 [.imm true Y53] [.imm false .bool] (a0,()) = p_spec_GoodTable N a0:=by kernel_rfl
noncomputable def s72:FSpec:=⟨[.imm true Y53],[.imm false .bool],fun x=>S_spec_GoodTable x.1,true⟩
theorem ok72:FnS Tryz.prog fa 72 s72:=fnAll (E:=E72) mixed tabOk ⟨ok89,ok155,trivial⟩ Tryz.func72 (by kernel_rfl) rfl fun x y h=>let ⟨N,hN⟩:=lim_some h; ⟨N,(r72 N x.1).trans hN⟩
noncomputable def E293:Env:={ tab:=tab,sig:=[(90,s90)],live:=[(0,[0,1,2,9,10,11,22,23,24,25,26,27,28,29,30,31,32],[])] }
theorem r293 (N:Nat) (a0:List Int) (a1:Int) (a2:Int):runF N E293 Tryz.f293 [.imm false Y5,.imm false Y1,.imm false Y1] [.imm false .bool] (a0,a1,a2,()) = p_spec_l1Rising N a0 a1 a2:=by kernel_rfl
noncomputable def s293:FSpec:=⟨[.imm false Y5,.imm false Y1,.imm false Y1],[.imm false .bool],fun x=>S_spec_l1Rising x.1 x.2.1 x.2.2.1,true⟩
theorem ok293:FnS Tryz.prog fa 293 s293:=fnAll (E:=E293) mixed tabOk ⟨ok90,trivial⟩ Tryz.func293 (by kernel_rfl) rfl fun x y h=>let ⟨N,hN⟩:=lim_some h; ⟨N,(r293 N x.1 x.2.1 x.2.2.1).trans hN⟩
noncomputable def E276:Env:={ tab:=tab,live:=[(0,[1,7,8,9],[])] }
theorem r276 (N:Nat) (a0:List Int) (a1:Int):runF N E276 Tryz.f276 [.imm false Y5,.imm false Y1] [.imm false .bool] (a0,a1,()) = p_spec_l1Has N a0 a1:=by kernel_rfl
noncomputable def s276:FSpec:=⟨[.imm false Y5,.imm false Y1],[.imm false .bool],fun x=>S_spec_l1Has x.1 x.2.1,true⟩
theorem ok276:FnS Tryz.prog fa 276 s276:=fnAll (E:=E276) mixed tabOk trivial Tryz.func276 (by kernel_rfl) rfl fun x y h=>let ⟨N,hN⟩:=lim_some h; ⟨N,(r276 N x.1 x.2.1).trans hN⟩
noncomputable def E258:Env:={ tab:=tab,sig:=[(218,s218),(90,s90),(293,s293),(276,s276),(221,s221),(155,s155),(220,s220),(219,s219),(174,s174)],live:=[(0,[0,5,53,54,55,64,65,66,77,78,79,80,88,89,90,91,94,95,96,99,100,101,102,103,114,115,116,117,120,121,122,123,126,127,128,131,132,133,134,135,136,137],[])],eqs:=[(137,[false,false,false,false,false])] }
theorem r258 (N:Nat) (a0:Int) (a1:Int) (a2:T9):runF N E258 Tryz.f258 [.imm false Y1,.imm false Y1,.imm true Y77] [.imm false .bool] (a0,a1,a2,()) = p_spec_l8Lead N a0 a1 a2:=by kernel_rfl
noncomputable def s258:FSpec:=⟨[.imm false Y1,.imm false Y1,.imm true Y77],[.imm false .bool],fun x=>S_spec_l8Lead x.1 x.2.1 x.2.2.1,true⟩
theorem ok258:FnS Tryz.prog fa 258 s258:=fnAll (E:=E258) (h4:=⟨eq137,trivial⟩) mixed tabOk ⟨ok218,ok90,ok293,ok276,ok221,ok155,ok220,ok219,ok174,trivial⟩ Tryz.func258 (by kernel_rfl) rfl fun x y h=>let ⟨N,hN⟩:=lim_some h; ⟨N,(r258 N x.1 x.2.1 x.2.2.1).trans hN⟩
noncomputable def E197:Env:={ tab:=tab,sig:=[(72,s72),(90,s90),(258,s258)],live:=[(0,[1,21,22,23,50,51,52,53,54,55,56,57,58,59,60,61],[])] }
theorem r197 (N:Nat) (a0:T10):runF N E197 Tryz.f197 [.imm true Y85] [.imm false .bool] (a0,()) = p_spec_GoodReplica N a0:=by kernel_rfl
noncomputable def s197:FSpec:=⟨[.imm true Y85],[.imm false .bool],fun x=>S_spec_GoodReplica x.1,true⟩
theorem ok197:FnS Tryz.prog fa 197 s197:=fnAll (E:=E197) mixed tabOk ⟨ok72,ok90,ok258,trivial⟩ Tryz.func197 (by kernel_rfl) rfl fun x y h=>let ⟨N,hN⟩:=lim_some h; ⟨N,(r197 N x.1).trans hN⟩
noncomputable def E198:Env:={ tab:=tab,sig:=[(89,s89),(90,s90),(218,s218),(155,s155),(221,s221),(220,s220),(174,s174),(219,s219)],eqs:=[(137,[false,false,false,false,false])] }
theorem r198 (N:Nat) (a0:Int) (a1:T11):runF N E198 Tryz.f198 [.imm false Y1,.imm true Y59] [.imm false .bool] (a0,a1,()) = p_spec_GoodMsg N a0 a1:=by kernel_rfl
noncomputable def s198:FSpec:=⟨[.imm false Y1,.imm true Y59],[.imm false .bool],fun x=>S_spec_GoodMsg x.1 x.2.1,true⟩
theorem ok198:FnS Tryz.prog fa 198 s198:=fnAll (E:=E198) (h4:=⟨eq137,trivial⟩) mixed tabOk ⟨ok89,ok90,ok218,ok155,ok221,ok220,ok174,ok219,trivial⟩ Tryz.func198 (by kernel_rfl) rfl fun x y h=>⟨0,(r198 0 x.1 x.2.1).trans h⟩
noncomputable def E129:Env:={ tab:=tab,sig:=[(89,s89),(196,s196),(197,s197),(198,s198)],live:=[(0,[1,3,28,29,30,39,40,41,42,45,46,47,48,49],[]),(2,[3,53,54,55],[])] }
theorem r129 (N:Nat) (a0:T13):runF N E129 Tryz.f129 [.imm true Y89] [.imm false .bool] (a0,()) = p_spec_GoodNet N a0:=by kernel_rfl
noncomputable def s129:FSpec:=⟨[.imm true Y89],[.imm false .bool],fun x=>S_spec_GoodNet x.1,true⟩
theorem ok129:FnS Tryz.prog fa 129 s129:=fnAll (E:=E129) mixed tabOk ⟨ok89,ok196,ok197,ok198,trivial⟩ Tryz.func129 (by kernel_rfl) rfl fun x y h=>let ⟨N,hN⟩:=lim_some h; ⟨N,(r129 N x.1).trans hN⟩
noncomputable def E228:Env:={ tab:=tab,live:=[(0,[3,9,10,11],[]),(2,[3,4,9,10,11,16,17,18],[])] }
theorem r228 (N:Nat) (a0:T8):runF N E228 Tryz.f228 [.imm true Y53] [.deep false Y9] (a0,()) = p_spec_l4Committed N a0:=by kernel_rfl
noncomputable def s228:FSpec:=⟨[.imm true Y53],[.deep false Y9],fun x=>S_spec_l4Committed x.1,true⟩
theorem ok228:FnS Tryz.prog fa 228 s228:=fnAll (E:=E228) mixed tabOk trivial Tryz.func228 (by kernel_rfl) rfl fun x y h=>let ⟨N,hN⟩:=lim_some h; ⟨N,(r228 N x.1).trans hN⟩
noncomputable def E115:Env:={ tab:=tab }
theorem r115 (N:Nat) (a0:List Int):runF N E115 Tryz.f115 [.imm false Y5] [.deep false Y5] (a0,()) = p_spec_l1Own N a0:=by kernel_rfl
noncomputable def s115:FSpec:=⟨[.imm false Y5],[.deep false Y5],fun x=>S_spec_l1Own x.1,true⟩
theorem ok115:FnS Tryz.prog fa 115 s115:=fnAll (E:=E115) mixed tabOk trivial Tryz.func115 (by kernel_rfl) rfl fun x y h=>⟨0,(r115 0 x.1).trans h⟩
noncomputable def E239:Env:={ tab:=tab,sig:=[(115,s115)] }
theorem r239 (N:Nat) (a0:T6):runF N E239 Tryz.f239 [.imm true Y15] [.deep true Y15] (a0,()) = p_spec_l4OwnAttr N a0:=by kernel_rfl
noncomputable def s239:FSpec:=⟨[.imm true Y15],[.deep true Y15],fun x=>S_spec_l4OwnAttr x.1,true⟩
theorem ok239:FnS Tryz.prog fa 239 s239:=fnAll (E:=E239) mixed tabOk ⟨ok115,trivial⟩ Tryz.func239 (by kernel_rfl) rfl fun x y h=>⟨0,(r239 0 x.1).trans h⟩
noncomputable def E177:Env:={ tab:=tab,sig:=[(239,s239)] }
theorem r177 (N:Nat) (a0:T7):runF N E177 Tryz.f177 [.imm true Y40] [.deep true Y40] (a0,()) = p_spec_l4OwnRow N a0:=by kernel_rfl
noncomputable def s177:FSpec:=⟨[.imm true Y40],[.deep true Y40],fun x=>S_spec_l4OwnRow x.1,true⟩
theorem ok177:FnS Tryz.prog fa 177 s177:=fnAll (E:=E177) mixed tabOk ⟨ok239,trivial⟩ Tryz.func177 (by kernel_rfl) rfl fun x y h=>⟨0,(r177 0 x.1).trans h⟩
noncomputable def E104:Env:={ tab:=tab,sig:=[(174,s174),(177,s177)] }
theorem r104 (N:Nat) (a0:T8) (a1:Int) (a2:Int):runF N E104 Tryz.f104 [.imm true Y53,.imm false Y1,.imm false Y1] [.deep true Y40] (a0,a1,a2,()) = p_spec_l4At N a0 a1 a2:=by kernel_rfl
noncomputable def s104:FSpec:=⟨[.imm true Y53,.imm false Y1,.imm false Y1],[.deep true Y40],fun x=>S_spec_l4At x.1 x.2.1 x.2.2.1,true⟩
theorem ok104:FnS Tryz.prog fa 104 s104:=fnAll (E:=E104) mixed tabOk ⟨ok174,ok177,trivial⟩ Tryz.func104 (by kernel_rfl) rfl fun x y h=>⟨0,(r104 0 x.1 x.2.1 x.2.2.1).trans h⟩
noncomputable def E235:Env:={ tab:=tab,sig:=[(104,s104)],live:=[(0,[1,2,8,18,19,20,34,35,36],[]),(2,[1,2,8,9,10,11,18,19,20,34,35,36],[])] }
theorem r235 (N:Nat) (a0:T8) (a1:Int) (a2:Int):runF N E235 Tryz.f235 [.imm true Y53,.imm false Y1,.imm false Y1] [.deep false Y9] (a0,a1,a2,()) = p_spec_l6Deps N a0 a1 a2:=by kernel_rfl
noncomputable def s235:FSpec:=⟨[.imm true Y53,.imm false Y1,.imm false Y1],[.deep false Y9],fun x=>S_spec_l6Deps x.1 x.2.1 x.2.2.1,true⟩
theorem ok235:FnS Tryz.prog fa 235 s235:=fnAll (E:=E235) mixed tabOk ⟨ok104,trivial⟩ Tryz.func235 (by kernel_rfl) rfl fun x y h=>let ⟨N,hN⟩:=lim_some h; ⟨N,(r235 N x.1 x.2.1 x.2.2.1).trans hN⟩
noncomputable def E116:Env:={ tab:=tab,sig:=[(188,s188)],live:=[(0,[1,7,8,9],[])] }
theorem r116 (N:Nat) (a0:List (List Int)) (a1:List Int):runF N E116 Tryz.f116 [.imm false Y9,.imm false Y5] [.imm false Y1] (a0,a1,()) = p_spec_l6Find N a0 a1:=by kernel_rfl
noncomputable def s116:FSpec:=⟨[.imm false Y9,.imm false Y5],[.imm false Y1],fun x=>S_spec_l6Find x.1 x.2.1,true⟩
theorem ok116:FnS Tryz.prog fa 116 s116:=fnAll (E:=E116) mixed tabOk ⟨ok188,trivial⟩ Tryz.func116 (by kernel_rfl) rfl fun x y h=>let ⟨N,hN⟩:=lim_some h; ⟨N,(r116 N x.1 x.2.1).trans hN⟩
noncomputable def E103:Env:={ tab:=tab,live:=[(0,[0,1,5,13,14,15,16,17,18,19,20,21,22,23,24,25,26,27,28,29,30,31,32,33,34,35,36,37,38,39,40,41,42,43,44,45,46,47,48,49],[])] }
theorem r103 (N:Nat) (a0:List (List Int)) (a1:List Int):runF N E103 Tryz.f103 [.imm false Y9,.imm false Y5] [.imm false Y9] (a0,a1,()) = p_spec_l6Insert N a0 a1:=by kernel_rfl
noncomputable def s103:FSpec:=⟨[.imm false Y9,.imm false Y5],[.imm false Y9],fun x=>S_spec_l6Insert x.1 x.2.1,true⟩
theorem ok103:FnS Tryz.prog fa 103 s103:=fnAll (E:=E103) mixed tabOk trivial Tryz.func103 (by kernel_rfl) rfl fun x y h=>let ⟨N,hN⟩:=lim_some h; ⟨N,(r103 N x.1 x.2.1).trans hN⟩
noncomputable def E229:Env:={ tab:=tab,sig:=[(235,s235),(116,s116),(104,s104),(103,s103)],live:=[(0,[3,7,8,9,46,47,48,49],[.frz (.r 8) 25 Y5,.loose 3 []]),(2,[3,7,8,9,35,36,37,46,47,48,49],[.loose 3 [5],.lean (.r 8) [5]])] }
theorem r229 (N:Nat) (a0:T8) (a1:Int) (a2:Int):runF N E229 Tryz.f229 [.imm true Y53,.imm false Y1,.imm false Y1] [.imm false Y9] (a0,a1,a2,()) = p_spec_l6Blockers N a0 a1 a2:=by kernel_rfl
noncomputable def s229:FSpec:=⟨[.imm true Y53,.imm false Y1,.imm false Y1],[.imm false Y9],fun x=>S_spec_l6Blockers x.1 x.2.1 x.2.2.1,true⟩
theorem ok229:FnS Tryz.prog fa 229 s229:=fnAll (E:=E229) mixed tabOk ⟨ok235,ok116,ok104,ok103,trivial⟩ Tryz.func229 (by kernel_rfl) rfl fun x y h=>let ⟨N,hN⟩:=lim_some h; ⟨N,(r229 N x.1 x.2.1 x.2.2.1).trans hN⟩
noncomputable def E169:Env:={ tab:=tab,sig:=[(228,s228),(229,s229)],live:=[(0,[1,3,7,8,9],[.loose 2 [3]])] }
theorem r169 (N:Nat) (a0:T8):runF N E169 Tryz.f169 [.imm true Y53] [.imm false Y9] (a0,()) = p_spec_l6Ready N a0:=by kernel_rfl
noncomputable def s169:FSpec:=⟨[.imm true Y53],[.imm false Y9],fun x=>S_spec_l6Ready x.1,true⟩
theorem ok169:FnS Tryz.prog fa 169 s169:=fnAll (E:=E169) mixed tabOk ⟨ok228,ok229,trivial⟩ Tryz.func169 (by kernel_rfl) rfl fun x y h=>let ⟨N,hN⟩:=lim_some h; ⟨N,(r169 N x.1).trans hN⟩
noncomputable def E98:Env:={ tab:=tab,sig:=[(169,s169),(116,s116)],live:=[(0,[1,3,4,5],[]),(2,[1,3,4,5,6],[])] }
theorem r98 (N:Nat) (a0:T8):runF N E98 Tryz.f98 [.imm true Y53] [.deep false Y5] (a0,()) = p_spec_l18Marks N a0:=by kernel_rfl
noncomputable def s98:FSpec:=⟨[.imm true Y53],[.deep false Y5],fun x=>S_spec_l18Marks x.1,true⟩
theorem ok98:FnS Tryz.prog fa 98 s98:=fnAll (E:=E98) mixed tabOk ⟨ok169,ok116,trivial⟩ Tryz.func98 (by kernel_rfl) rfl fun x y h=>let ⟨N,hN⟩:=lim_some h; ⟨N,(r98 N x.1).trans hN⟩
noncomputable def E130:Env:={ tab:=tab }
theorem r130 (N:Nat) (a0:Int) (a1:Int):runF N E130 Tryz.f130 [.imm false Y1,.imm false Y1] [.imm false Y1] (a0,a1,()) = p_spec_l1Least N a0 a1:=by kernel_rfl
noncomputable def s130:FSpec:=⟨[.imm false Y1,.imm false Y1],[.imm false Y1],fun x=>S_spec_l1Least x.1 x.2.1,true⟩
theorem ok130:FnS Tryz.prog fa 130 s130:=fnAll (E:=E130) mixed tabOk trivial Tryz.func130 (by kernel_rfl) rfl fun x y h=>⟨0,(r130 0 x.1 x.2.1).trans h⟩
noncomputable def E62:Env:={ tab:=tab,sig:=[(129,s129),(98,s98),(130,s130)],live:=[(0,[4,19,20,21],[]),(2,[4,19,20,21,27,28,29],[])] }
theorem r62 (N:Nat) (a0:T13):runF N E62 Tryz.f62 [.imm true Y89] [.deep false Y5,.imm false .bool] (a0,()) = p_spec_CommonMarks N a0:=by kernel_rfl
noncomputable def s62:FSpec:=⟨[.imm true Y89],[.deep false Y5,.imm false .bool],fun x=>S_spec_CommonMarks x.1,true⟩
theorem ok62:FnS Tryz.prog fa 62 s62:=fnAll (E:=E62) mixed tabOk ⟨ok129,ok98,ok130,trivial⟩ Tryz.func62 (by kernel_rfl) rfl fun x y h=>let ⟨N,hN⟩:=lim_some h; ⟨N,(r62 N x.1).trans hN⟩
noncomputable def E77:Env:={ tab:=tab }
theorem r77 (N:Nat) (a0:Int):runF N E77 Tryz.f77 [.imm false Y1] [.imm false .bool] (a0,()) = p_impl_IsGroup N a0:=by kernel_rfl
noncomputable def s77:FSpec:=⟨[.imm false Y1],[.imm false .bool],fun x=>S_impl_IsGroup x.1,true⟩
theorem ok77:FnS Tryz.prog fa 77 s77:=fnAll (E:=E77) mixed tabOk trivial Tryz.func77 (by kernel_rfl) rfl fun x y h=>⟨0,(r77 0 x.1).trans h⟩
noncomputable def E78:Env:={ tab:=tab }
theorem r78 (N:Nat) (a0:Int) (a1:Int) (a2:Int):runF N E78 Tryz.f78 [.imm false Y1,.imm false Y1,.imm false Y1] [.imm false .bool] (a0,a1,a2,()) = p_impl_within N a0 a1 a2:=by kernel_rfl
noncomputable def s78:FSpec:=⟨[.imm false Y1,.imm false Y1,.imm false Y1],[.imm false .bool],fun x=>S_impl_within x.1 x.2.1 x.2.2.1,true⟩
theorem ok78:FnS Tryz.prog fa 78 s78:=fnAll (E:=E78) mixed tabOk trivial Tryz.func78 (by kernel_rfl) rfl fun x y h=>⟨0,(r78 0 x.1 x.2.1 x.2.2.1).trans h⟩
noncomputable def E160:Env:={ tab:=tab,sig:=[(77,s77),(78,s78)] }
theorem r160 (N:Nat) (a0:Int) (a1:Int) (a2:Int):runF N E160 Tryz.f160 [.imm false Y1,.imm false Y1,.imm false Y1] [.imm false .bool] (a0,a1,a2,()) = p_impl_isInstance N a0 a1 a2:=by kernel_rfl
noncomputable def s160:FSpec:=⟨[.imm false Y1,.imm false Y1,.imm false Y1],[.imm false .bool],fun x=>S_impl_isInstance x.1 x.2.1 x.2.2.1,true⟩
theorem ok160:FnS Tryz.prog fa 160 s160:=fnAll (E:=E160) mixed tabOk ⟨ok77,ok78,trivial⟩ Tryz.func160 (by kernel_rfl) rfl fun x y h=>⟨0,(r160 0 x.1 x.2.1 x.2.2.1).trans h⟩
noncomputable def E121:Env:={ tab:=tab }
theorem r121 (N:Nat) (a0:List Int):runF N E121 Tryz.f121 [.imm false Y5] [.deep false Y5] (a0,()) = p_Clone_Lint_int N a0:=by kernel_rfl
noncomputable def s121:FSpec:=⟨[.imm false Y5],[.deep false Y5],fun x=>S_Clone_Lint_int x.1,true⟩
theorem ok121:FnS Tryz.prog fa 121 s121:=fnAll (E:=E121) mixed tabOk trivial Tryz.func121 (by kernel_rfl) rfl fun x y h=>⟨0,(r121 0 x.1).trans h⟩
noncomputable def E274:Env:={ tab:=tab,sig:=[(121,s121)] }
theorem r274 (N:Nat) (a0:T6):runF N E274 Tryz.f274 [.imm true Y15] [.deep true Y15] (a0,()) = p_impl_Attr_copied N a0:=by kernel_rfl
noncomputable def s274:FSpec:=⟨[.imm true Y15],[.deep true Y15],fun x=>S_impl_Attr_copied x.1,true⟩
theorem ok274:FnS Tryz.prog fa 274 s274:=fnAll (E:=E274) mixed tabOk ⟨ok121,trivial⟩ Tryz.func274 (by kernel_rfl) rfl fun x y h=>⟨0,(r274 0 x.1).trans h⟩
noncomputable def E263:Env:={ tab:=tab,sig:=[(274,s274)] }
theorem r263 (N:Nat) (a0:T11):runF N E263 Tryz.f263 [.imm true Y59] [.deep true Y40] (a0,()) = p_impl_Msg_row N a0:=by kernel_rfl
noncomputable def s263:FSpec:=⟨[.imm true Y59],[.deep true Y40],fun x=>S_impl_Msg_row x.1,true⟩
theorem ok263:FnS Tryz.prog fa 263 s263:=fnAll (E:=E263) mixed tabOk ⟨ok274,trivial⟩ Tryz.func263 (by kernel_rfl) rfl fun x y h=>⟨0,(r263 0 x.1).trans h⟩
noncomputable def E265:Env:={ tab:=tab,sig:=[(78,s78)] }
theorem r265 (N:Nat) (a0:Int):runF N E265 Tryz.f265 [.imm false Y1] [.imm false .bool] (a0,()) = p_impl_isAccount N a0:=by kernel_rfl
noncomputable def s265:FSpec:=⟨[.imm false Y1],[.imm false .bool],fun x=>S_impl_isAccount x.1,true⟩
theorem ok265:FnS Tryz.prog fa 265 s265:=fnAll (E:=E265) mixed tabOk ⟨ok78,trivial⟩ Tryz.func265 (by kernel_rfl) rfl fun x y h=>⟨0,(r265 0 x.1).trans h⟩
noncomputable def E206:Env:={ tab:=tab,sig:=[(78,s78),(265,s265)],eqs:=[(137,[false,false,false,false,false])] }
theorem r206 (N:Nat) (a0:T2):runF N E206 Tryz.f206 [.imm true Y25] [.imm false .bool] (a0,()) = p_impl_GoodCmd N a0:=by kernel_rfl
noncomputable def s206:FSpec:=⟨[.imm true Y25],[.imm false .bool],fun x=>S_impl_GoodCmd x.1,true⟩
theorem ok206:FnS Tryz.prog fa 206 s206:=fnAll (E:=E206) (h4:=⟨eq137,trivial⟩) mixed tabOk ⟨ok78,ok265,trivial⟩ Tryz.func206 (by kernel_rfl) rfl fun x y h=>⟨0,(r206 0 x.1).trans h⟩
noncomputable def E161:Env:={ tab:=tab,live:=[(0,[0,1,7,8],[])] }
theorem r161 (N:Nat) (a0:List Int) (a1:(Int × Unit) → Option Bool):runF N E161 Tryz.f161 [.imm false Y5,.clo [(false,Y1)] .bool] [.imm false Y1] (a0,a1,()) = p_IndexFunc_Lint_int N a0 a1:=by kernel_rfl
noncomputable def s161:FSpec:=⟨[.imm false Y5,.clo [(false,Y1)] .bool],[.imm false Y1],fun x=>S_IndexFunc_Lint_int x.1 x.2.1,true⟩
theorem ok161:FnS Tryz.prog fa 161 s161:=fnAll (E:=E161) mixed tabOk trivial Tryz.func161 (by kernel_rfl) rfl fun x y h=>let ⟨N,hN⟩:=lim_some h; ⟨N,(r161 N x.1 x.2.1).trans hN⟩
noncomputable def E80:Env:={ tab:=tab,sig:=[(161,s161)] }
theorem r80 (N:Nat) (a0:List Int) (a1:(Int × Unit) → Option Bool):runF N E80 Tryz.f80 [.imm false Y5,.clo [(false,Y1)] .bool] [.imm false .bool] (a0,a1,()) = p_ContainsFunc_Lint_int N a0 a1:=by kernel_rfl
noncomputable def s80:FSpec:=⟨[.imm false Y5,.clo [(false,Y1)] .bool],[.imm false .bool],fun x=>S_ContainsFunc_Lint_int x.1 x.2.1,true⟩
theorem ok80:FnS Tryz.prog fa 80 s80:=fnAll (E:=E80) mixed tabOk ⟨ok161,trivial⟩ Tryz.func80 (by kernel_rfl) rfl fun x y h=>⟨0,(r80 0 x.1 x.2.1).trans h⟩
theorem enters272:Enters Tryz.prog 272:=enters Tryz.func272 (by kernel_rfl) rfl
noncomputable def E215:Env:={ tab:=tab,sig:=[(77,s77),(78,s78),(80,s80)],clos:=[(272,⟨Tryz.f272,[(false,Y1)],[]⟩)] }
theorem r215 (N:Nat) (a0:Int) (a1:T6):runF N E215 Tryz.f215 [.imm false Y1,.imm true Y15] [.imm false .bool] (a0,a1,()) = p_impl_GoodAttr N a0 a1:=by kernel_rfl
noncomputable def s215:FSpec:=⟨[.imm false Y1,.imm true Y15],[.imm false .bool],fun x=>S_impl_GoodAttr x.1 x.2.1,true⟩
theorem ok215:FnS Tryz.prog fa 215 s215:=fnAll (E:=E215) (h3:=⟨⟨Tryz.func272,enters272⟩,trivial⟩) mixed tabOk ⟨ok77,ok78,ok80,trivial⟩ Tryz.func215 (by kernel_rfl) rfl fun x y h=>⟨0,(r215 0 x.1 x.2.1).trans h⟩
noncomputable def E217:Env:={ tab:=tab }
theorem r217 (N:Nat) (a0:Int):runF N E217 Tryz.f217 [.imm false Y1] [.deep true Y15] (a0,()) = p_impl_noneAttr N a0:=by kernel_rfl
noncomputable def s217:FSpec:=⟨[.imm false Y1],[.deep true Y15],fun x=>S_impl_noneAttr x.1,true⟩
theorem ok217:FnS Tryz.prog fa 217 s217:=fnAll (E:=E217) mixed tabOk trivial Tryz.func217 (by kernel_rfl) rfl fun x y h=>⟨0,(r217 0 x.1).trans h⟩
noncomputable def E152:Env:={ tab:=tab,live:=[(0,[0,1,12,13],[])] }
theorem r152 (N:Nat) (a0:List Int) (a1:List Int):runF N E152 Tryz.f152 [.imm false Y5,.imm false Y5] [.imm false .bool] (a0,a1,()) = p_Equal_Lint_int N a0 a1:=by kernel_rfl
noncomputable def s152:FSpec:=⟨[.imm false Y5,.imm false Y5],[.imm false .bool],fun x=>S_Equal_Lint_int x.1 x.2.1,true⟩
theorem ok152:FnS Tryz.prog fa 152 s152:=fnAll (E:=E152) mixed tabOk trivial Tryz.func152 (by kernel_rfl) rfl fun x y h=>let ⟨N,hN⟩:=lim_some h; ⟨N,(r152 N x.1 x.2.1).trans hN⟩
noncomputable def E216:Env:={ tab:=tab,sig:=[(152,s152)] }
theorem r216 (N:Nat) (a0:T6) (a1:T6):runF N E216 Tryz.f216 [.imm true Y15,.imm true Y15] [.imm false .bool] (a0,a1,()) = p_impl_SameAttr N a0 a1:=by kernel_rfl
noncomputable def s216:FSpec:=⟨[.imm true Y15,.imm true Y15],[.imm false .bool],fun x=>S_impl_SameAttr x.1 x.2.1,true⟩
theorem ok216:FnS Tryz.prog fa 216 s216:=fnAll (E:=E216) mixed tabOk ⟨ok152,trivial⟩ Tryz.func216 (by kernel_rfl) rfl fun x y h=>⟨0,(r216 0 x.1 x.2.1).trans h⟩
noncomputable def E149:Env:={ tab:=tab,sig:=[(78,s78),(206,s206),(215,s215),(217,s217),(216,s216)],eqs:=[(137,[false,false,false,false,false])] }
theorem r149 (N:Nat) (a0:Int) (a1:T7):runF N E149 Tryz.f149 [.imm false Y1,.imm true Y40] [.imm false .bool] (a0,a1,()) = p_impl_goodRow N a0 a1:=by kernel_rfl
noncomputable def s149:FSpec:=⟨[.imm false Y1,.imm true Y40],[.imm false .bool],fun x=>S_impl_goodRow x.1 x.2.1,true⟩
theorem ok149:FnS Tryz.prog fa 149 s149:=fnAll (E:=E149) (h4:=⟨eq137,trivial⟩) mixed tabOk ⟨ok78,ok206,ok215,ok217,ok216,trivial⟩ Tryz.func149 (by kernel_rfl) rfl fun x y h=>⟨0,(r149 0 x.1 x.2.1).trans h⟩
end Go.Proofs.YtdcbankajhnepaaGreat.Am
