/- Functions, as they run on data. No condition. -/
import Derived.Test.YtdcbankajhnepaaGreatAmFn1
set_option linter.unusedVariables false
set_option maxRecDepth 100000
namespace Go.Proofs.YtdcbankajhnepaaGreat.Am
open Go.AM Go.AM.P Go.Proofs Go.Shelf
noncomputable def E204:Env:={ tab:=tab,sig:=[(78,s78),(160,s160),(263,s263),(149,s149),(206,s206),(215,s215),(217,s217),(216,s216)],eqs:=[(137,[false,false,false,false,false])] }
theorem r204 (N:Nat) (a0:Int) (a1:T11):runF N E204 Tryz.f204 [.imm false Y1,.imm true Y59] [.imm false .bool] (a0,a1,()) = p_impl_GoodMsg N a0 a1:=by kernel_rfl
noncomputable def s204:FSpec:=⟨[.imm false Y1,.imm true Y59],[.imm false .bool],fun x=>S_impl_GoodMsg x.1 x.2.1,true⟩
theorem ok204:FnS Tryz.prog fa 204 s204:=fnAll (E:=E204) (h4:=⟨eq137,trivial⟩) mixed tabOk ⟨ok78,ok160,ok263,ok149,ok206,ok215,ok217,ok216,trivial⟩ Tryz.func204 (by kernel_rfl) rfl fun x y h=>⟨0,(r204 0 x.1 x.2.1).trans h⟩
noncomputable def E262:Env:={ tab:=tab,live:=[(0,[0,1,7,8],[])] }
theorem r262 (N:Nat) (a0:List T11) (a1:(T11 × Unit) → Option Bool):runF N E262 Tryz.f262 [.imm false Y61,.clo [(true,Y59)] .bool] [.imm false Y1] (a0,a1,()) = p_IndexFunc_Limpl_Msg_impl_Msg N a0 a1:=by kernel_rfl
noncomputable def s262:FSpec:=⟨[.imm false Y61,.clo [(true,Y59)] .bool],[.imm false Y1],fun x=>S_IndexFunc_Limpl_Msg_impl_Msg x.1 x.2.1,true⟩
theorem ok262:FnS Tryz.prog fa 262 s262:=fnAll (E:=E262) mixed tabOk trivial Tryz.func262 (by kernel_rfl) rfl fun x y h=>let ⟨N,hN⟩:=lim_some h; ⟨N,(r262 N x.1 x.2.1).trans hN⟩
noncomputable def E202:Env:={ tab:=tab,sig:=[(262,s262)] }
theorem r202 (N:Nat) (a0:List T11) (a1:(T11 × Unit) → Option Bool):runF N E202 Tryz.f202 [.imm false Y61,.clo [(true,Y59)] .bool] [.imm false .bool] (a0,a1,()) = p_ContainsFunc_Limpl_Msg_impl_Msg N a0 a1:=by kernel_rfl
noncomputable def s202:FSpec:=⟨[.imm false Y61,.clo [(true,Y59)] .bool],[.imm false .bool],fun x=>S_ContainsFunc_Limpl_Msg_impl_Msg x.1 x.2.1,true⟩
theorem ok202:FnS Tryz.prog fa 202 s202:=fnAll (E:=E202) mixed tabOk ⟨ok262,trivial⟩ Tryz.func202 (by kernel_rfl) rfl fun x y h=>⟨0,(r202 0 x.1 x.2.1).trans h⟩
noncomputable def E214:Env:={ tab:=tab,live:=[(0,[0,1,7,8],[])] }
theorem r214 (N:Nat) (a0:List T7) (a1:(T7 × Unit) → Option Bool):runF N E214 Tryz.f214 [.imm false Y41,.clo [(true,Y40)] .bool] [.imm false Y1] (a0,a1,()) = p_IndexFunc_Limpl_Row_impl_Row N a0 a1:=by kernel_rfl
noncomputable def s214:FSpec:=⟨[.imm false Y41,.clo [(true,Y40)] .bool],[.imm false Y1],fun x=>S_IndexFunc_Limpl_Row_impl_Row x.1 x.2.1,true⟩
theorem ok214:FnS Tryz.prog fa 214 s214:=fnAll (E:=E214) mixed tabOk trivial Tryz.func214 (by kernel_rfl) rfl fun x y h=>let ⟨N,hN⟩:=lim_some h; ⟨N,(r214 N x.1 x.2.1).trans hN⟩
noncomputable def E147:Env:={ tab:=tab,sig:=[(214,s214)] }
theorem r147 (N:Nat) (a0:List T7) (a1:(T7 × Unit) → Option Bool):runF N E147 Tryz.f147 [.imm false Y41,.clo [(true,Y40)] .bool] [.imm false .bool] (a0,a1,()) = p_ContainsFunc_Limpl_Row_impl_Row N a0 a1:=by kernel_rfl
noncomputable def s147:FSpec:=⟨[.imm false Y41,.clo [(true,Y40)] .bool],[.imm false .bool],fun x=>S_ContainsFunc_Limpl_Row_impl_Row x.1 x.2.1,true⟩
theorem ok147:FnS Tryz.prog fa 147 s147:=fnAll (E:=E147) mixed tabOk ⟨ok214,trivial⟩ Tryz.func147 (by kernel_rfl) rfl fun x y h=>⟨0,(r147 0 x.1 x.2.1).trans h⟩
noncomputable def E213:Env:={ tab:=tab,live:=[(0,[0,1,7,8],[])] }
theorem r213 (N:Nat) (a0:List (List T7)) (a1:(List T7 × Unit) → Option Bool):runF N E213 Tryz.f213 [.imm false Y44,.clo [(false,Y41)] .bool] [.imm false Y1] (a0,a1,()) = p_IndexFunc_LLimpl_Row_Limpl_Row N a0 a1:=by kernel_rfl
noncomputable def s213:FSpec:=⟨[.imm false Y44,.clo [(false,Y41)] .bool],[.imm false Y1],fun x=>S_IndexFunc_LLimpl_Row_Limpl_Row x.1 x.2.1,true⟩
theorem ok213:FnS Tryz.prog fa 213 s213:=fnAll (E:=E213) mixed tabOk trivial Tryz.func213 (by kernel_rfl) rfl fun x y h=>let ⟨N,hN⟩:=lim_some h; ⟨N,(r213 N x.1 x.2.1).trans hN⟩
noncomputable def E145:Env:={ tab:=tab,sig:=[(213,s213)] }
theorem r145 (N:Nat) (a0:List (List T7)) (a1:(List T7 × Unit) → Option Bool):runF N E145 Tryz.f145 [.imm false Y44,.clo [(false,Y41)] .bool] [.imm false .bool] (a0,a1,()) = p_ContainsFunc_LLimpl_Row_Limpl_Row N a0 a1:=by kernel_rfl
noncomputable def s145:FSpec:=⟨[.imm false Y44,.clo [(false,Y41)] .bool],[.imm false .bool],fun x=>S_ContainsFunc_LLimpl_Row_Limpl_Row x.1 x.2.1,true⟩
theorem ok145:FnS Tryz.prog fa 145 s145:=fnAll (E:=E145) mixed tabOk ⟨ok213,trivial⟩ Tryz.func145 (by kernel_rfl) rfl fun x y h=>⟨0,(r145 0 x.1 x.2.1).trans h⟩
theorem enters146:Enters Tryz.prog 146:=enters Tryz.func146 (by kernel_rfl) rfl
theorem enters148:Enters Tryz.prog 148:=enters Tryz.func148 (by kernel_rfl) rfl
noncomputable def E69:Env:={ tab:=tab,sig:=[(77,s77),(145,s145),(147,s147),(149,s149)],clos:=[(146,⟨Tryz.f146,[(false,Y41)],[]⟩),(148,⟨Tryz.f148,[(true,Y40)],[]⟩)] }
theorem r69 (N:Nat) (a0:T8):runF N E69 Tryz.f69 [.imm true Y53] [.imm false .bool] (a0,()) = p_impl_GoodTable N a0:=by kernel_rfl
noncomputable def s69:FSpec:=⟨[.imm true Y53],[.imm false .bool],fun x=>S_impl_GoodTable x.1,true⟩
theorem ok69:FnS Tryz.prog fa 69 s69:=fnAll (E:=E69) (h3:=⟨⟨Tryz.func146,enters146⟩,⟨Tryz.func148,enters148⟩,trivial⟩) mixed tabOk ⟨ok77,ok145,ok147,ok149,trivial⟩ Tryz.func69 (by kernel_rfl) rfl fun x y h=>⟨0,(r69 0 x.1).trans h⟩
noncomputable def E310:Env:={ tab:=tab,live:=[(0,[0,3],[])] }
theorem r310 (N:Nat) (a0:List Int):runF N E310 Tryz.f310 [.imm false Y5] [.imm false .bool] (a0,()) = p_impl_rise N a0:=by kernel_rfl
noncomputable def s310:FSpec:=⟨[.imm false Y5],[.imm false .bool],fun x=>S_impl_rise x.1,true⟩
theorem ok310:FnS Tryz.prog fa 310 s310:=fnAll (E:=E310) mixed tabOk trivial Tryz.func310 (by kernel_rfl) rfl fun x y h=>let ⟨N,hN⟩:=lim_some h; ⟨N,(r310 N x.1).trans hN⟩
theorem enters311:Enters Tryz.prog 311:=enters Tryz.func311 (by kernel_rfl) rfl
noncomputable def E295:Env:={ tab:=tab,sig:=[(310,s310),(80,s80),(78,s78)],clos:=[(311,⟨Tryz.f311,[(false,Y1)],[]⟩)] }
theorem r295 (N:Nat) (a0:Int) (a1:List Int):runF N E295 Tryz.f295 [.imm false Y1,.imm false Y5] [.imm false .bool] (a0,a1,()) = p_impl_areMembers N a0 a1:=by kernel_rfl
noncomputable def s295:FSpec:=⟨[.imm false Y1,.imm false Y5],[.imm false .bool],fun x=>S_impl_areMembers x.1 x.2.1,true⟩
theorem ok295:FnS Tryz.prog fa 295 s295:=fnAll (E:=E295) (h3:=⟨⟨Tryz.func311,enters311⟩,trivial⟩) mixed tabOk ⟨ok310,ok80,ok78,trivial⟩ Tryz.func295 (by kernel_rfl) rfl fun x y h=>⟨0,(r295 0 x.1 x.2.1).trans h⟩
noncomputable def E300:Env:={ tab:=tab,live:=[(0,[0,1,7,8],[])] }
theorem r300 (N:Nat) (a0:List Int) (a1:Int):runF N E300 Tryz.f300 [.imm false Y5,.imm false Y1] [.imm false Y1] (a0,a1,()) = p_Index_Lint_int N a0 a1:=by kernel_rfl
noncomputable def s300:FSpec:=⟨[.imm false Y5,.imm false Y1],[.imm false Y1],fun x=>S_Index_Lint_int x.1 x.2.1,true⟩
theorem ok300:FnS Tryz.prog fa 300 s300:=fnAll (E:=E300) mixed tabOk trivial Tryz.func300 (by kernel_rfl) rfl fun x y h=>let ⟨N,hN⟩:=lim_some h; ⟨N,(r300 N x.1 x.2.1).trans hN⟩
noncomputable def E282:Env:={ tab:=tab,sig:=[(300,s300)] }
theorem r282 (N:Nat) (a0:List Int) (a1:Int):runF N E282 Tryz.f282 [.imm false Y5,.imm false Y1] [.imm false .bool] (a0,a1,()) = p_Contains_Lint_int N a0 a1:=by kernel_rfl
noncomputable def s282:FSpec:=⟨[.imm false Y5,.imm false Y1],[.imm false .bool],fun x=>S_Contains_Lint_int x.1 x.2.1,true⟩
theorem ok282:FnS Tryz.prog fa 282 s282:=fnAll (E:=E282) mixed tabOk ⟨ok300,trivial⟩ Tryz.func282 (by kernel_rfl) rfl fun x y h=>⟨0,(r282 0 x.1 x.2.1).trans h⟩
theorem enters296:Enters Tryz.prog 296:=enters Tryz.func296 (by kernel_rfl) rfl
noncomputable def E264:Env:={ tab:=tab,sig:=[(160,s160),(78,s78),(295,s295),(282,s282),(215,s215),(206,s206),(216,s216),(217,s217),(147,s147),(149,s149)],clos:=[(296,⟨Tryz.f296,[(true,Y40)],[]⟩)],eqs:=[(137,[false,false,false,false,false])] }
theorem r264 (N:Nat) (a0:Int) (a1:Int) (a2:T9):runF N E264 Tryz.f264 [.imm false Y1,.imm false Y1,.imm true Y77] [.imm false .bool] (a0,a1,a2,()) = p_impl_goodLead N a0 a1 a2:=by kernel_rfl
noncomputable def s264:FSpec:=⟨[.imm false Y1,.imm false Y1,.imm true Y77],[.imm false .bool],fun x=>S_impl_goodLead x.1 x.2.1 x.2.2.1,true⟩
theorem ok264:FnS Tryz.prog fa 264 s264:=fnAll (E:=E264) (h3:=⟨⟨Tryz.func296,enters296⟩,trivial⟩) (h4:=⟨eq137,trivial⟩) mixed tabOk ⟨ok160,ok78,ok295,ok282,ok215,ok206,ok216,ok217,ok147,ok149,trivial⟩ Tryz.func264 (by kernel_rfl) rfl fun x y h=>⟨0,(r264 0 x.1 x.2.1 x.2.2.1).trans h⟩
noncomputable def E253:Env:={ tab:=tab }
theorem r253 (N:Nat) (a0:Int):runF N E253 Tryz.f253 [.imm false Y1] [.imm false .bool] (a0,()) = p_cmp_isNaN_int N a0:=by kernel_rfl
noncomputable def s253:FSpec:=⟨[.imm false Y1],[.imm false .bool],fun x=>S_cmp_isNaN_int x.1,true⟩
theorem ok253:FnS Tryz.prog fa 253 s253:=fnAll (E:=E253) mixed tabOk trivial Tryz.func253 (by kernel_rfl) rfl fun x y h=>⟨0,(r253 0 x.1).trans h⟩
noncomputable def E186:Env:={ tab:=tab,sig:=[(253,s253)] }
theorem r186 (N:Nat) (a0:Int) (a1:Int):runF N E186 Tryz.f186 [.imm false Y1,.imm false Y1] [.imm false Y1] (a0,a1,()) = p_cmp_Compare_int N a0 a1:=by kernel_rfl
noncomputable def s186:FSpec:=⟨[.imm false Y1,.imm false Y1],[.imm false Y1],fun x=>S_cmp_Compare_int x.1 x.2.1,true⟩
theorem ok186:FnS Tryz.prog fa 186 s186:=fnAll (E:=E186) mixed tabOk ⟨ok253,trivial⟩ Tryz.func186 (by kernel_rfl) rfl fun x y h=>⟨0,(r186 0 x.1 x.2.1).trans h⟩
noncomputable def E111:Env:={ tab:=tab,sig:=[(186,s186)],live:=[(0,[0,1,9,10,11],[])] }
theorem r111 (N:Nat) (a0:List Int) (a1:List Int):runF N E111 Tryz.f111 [.imm false Y5,.imm false Y5] [.imm false Y1] (a0,a1,()) = p_Compare_Lint_int N a0 a1:=by kernel_rfl
noncomputable def s111:FSpec:=⟨[.imm false Y5,.imm false Y5],[.imm false Y1],fun x=>S_Compare_Lint_int x.1 x.2.1,true⟩
theorem ok111:FnS Tryz.prog fa 111 s111:=fnAll (E:=E111) mixed tabOk ⟨ok186,trivial⟩ Tryz.func111 (by kernel_rfl) rfl fun x y h=>let ⟨N,hN⟩:=lim_some h; ⟨N,(r111 N x.1 x.2.1).trans hN⟩
noncomputable def E205:Env:={ tab:=tab,sig:=[(69,s69),(78,s78),(264,s264),(111,s111)],live:=[(0,[1,20,21,22,36,37,38,39,40,41,42,43,44,45,46,47,48,49,50,51,52,53,54,55,56,57,58,59,60,61],[])],imm:=[43,58] }
theorem r205 (N:Nat) (a0:T10):runF N E205 Tryz.f205 [.imm true Y85] [.imm false .bool] (a0,()) = p_impl_GoodReplica N a0:=by kernel_rfl
noncomputable def s205:FSpec:=⟨[.imm true Y85],[.imm false .bool],fun x=>S_impl_GoodReplica x.1,true⟩
theorem ok205:FnS Tryz.prog fa 205 s205:=fnAll (E:=E205) mixed tabOk ⟨ok69,ok78,ok264,ok111,trivial⟩ Tryz.func205 (by kernel_rfl) rfl fun x y h=>let ⟨N,hN⟩:=lim_some h; ⟨N,(r205 N x.1).trans hN⟩
noncomputable def E266:Env:={ tab:=tab,live:=[(0,[0,1,7,8],[])] }
theorem r266 (N:Nat) (a0:List T12) (a1:(T12 × Unit) → Option Bool):runF N E266 Tryz.f266 [.imm false Y31,.clo [(true,Y29)] .bool] [.imm false Y1] (a0,a1,()) = p_IndexFunc_Limpl_Asked_impl_Asked N a0 a1:=by kernel_rfl
noncomputable def s266:FSpec:=⟨[.imm false Y31,.clo [(true,Y29)] .bool],[.imm false Y1],fun x=>S_IndexFunc_Limpl_Asked_impl_Asked x.1 x.2.1,true⟩
theorem ok266:FnS Tryz.prog fa 266 s266:=fnAll (E:=E266) mixed tabOk trivial Tryz.func266 (by kernel_rfl) rfl fun x y h=>let ⟨N,hN⟩:=lim_some h; ⟨N,(r266 N x.1 x.2.1).trans hN⟩
theorem enters267:Enters Tryz.prog 267:=enters Tryz.func267 (by kernel_rfl) rfl
noncomputable def E207:Env:={ tab:=tab,sig:=[(266,s266)],clos:=[(267,⟨Tryz.f267,[(true,Y29)],[]⟩)] }
theorem r207 (N:Nat) (a0:T13) (a1:Int) (a2:Int) (a3:Int):runF N E207 Tryz.f207 [.imm true Y89,.imm false Y1,.imm false Y1,.imm false Y1] [.imm false Y1] (a0,a1,a2,a3,()) = p_impl_Net_asked N a0 a1 a2 a3:=by kernel_rfl
noncomputable def s207:FSpec:=⟨[.imm true Y89,.imm false Y1,.imm false Y1,.imm false Y1],[.imm false Y1],fun x=>S_impl_Net_asked x.1 x.2.1 x.2.2.1 x.2.2.2.1,true⟩
theorem ok207:FnS Tryz.prog fa 207 s207:=fnAll (E:=E207) (h3:=⟨⟨Tryz.func267,enters267⟩,trivial⟩) mixed tabOk ⟨ok266,trivial⟩ Tryz.func207 (by kernel_rfl) rfl fun x y h=>⟨0,(r207 0 x.1 x.2.1 x.2.2.1 x.2.2.2.1).trans h⟩
theorem enters203:Enters Tryz.prog 203:=enters Tryz.func203 (by kernel_rfl) rfl
noncomputable def E134:Env:={ tab:=tab,sig:=[(77,s77),(202,s202),(204,s204),(205,s205),(160,s160),(206,s206),(207,s207)],clos:=[(203,⟨Tryz.f203,[(true,Y59)],[]⟩)],live:=[(0,[1,3,27,28,29,39,40,41,42,43,46,47,48,67,68,69,70,73,74,75,76,79,80,81,82,83,84,85,86],[]),(2,[1,3,52,53,54,67,68,69,70,73,74,75,76,79,80,81,82,83,84,85,86],[])] }
theorem r134 (N:Nat) (a0:T13):runF N E134 Tryz.f134 [.imm true Y89] [.imm false .bool] (a0,()) = p_impl_GoodNet N a0:=by kernel_rfl
noncomputable def s134:FSpec:=⟨[.imm true Y89],[.imm false .bool],fun x=>S_impl_GoodNet x.1,true⟩
theorem ok134:FnS Tryz.prog fa 134 s134:=fnAll (E:=E134) (h3:=⟨⟨Tryz.func203,enters203⟩,trivial⟩) mixed tabOk ⟨ok77,ok202,ok204,ok205,ok160,ok206,ok207,trivial⟩ Tryz.func134 (by kernel_rfl) rfl fun x y h=>let ⟨N,hN⟩:=lim_some h; ⟨N,(r134 N x.1).trans hN⟩
theorem enters208:Enters Tryz.prog 208:=enters Tryz.func208 (by kernel_rfl) rfl
theorem enters269:Enters Tryz.prog 269:=enters Tryz.func269 (by kernel_rfl) rfl
noncomputable def E135:Env:={ tab:=tab,clos:=[(208,⟨Tryz.f208,[],[]⟩),(269,⟨Tryz.f269,[],[]⟩)],live:=[(0,[7,8],[])],inl:=[208,269],views:=true }
theorem env135:EnvOk Tryz.prog (fa.at true) E135:=envOk mixed tabOk trivial ⟨⟨Tryz.func208,enters208⟩,⟨Tryz.func269,enters269⟩,trivial⟩ trivial
noncomputable def s135:FSpec:=⟨[.imm false Y5,.imm false Y1],[.deep false Y5],fun x=>S_Repeat1 x.1 x.2.1,true⟩
theorem r135_0 (v:Int):runF 12 E135 Tryz.f135 [.imm false Y5,.imm false Y1] [.deep false Y5] ([v],(0:Int),()) = some ((([]:List Int),()),()):=by kernel_rfl
theorem r135_1 (v:Int):runF 12 E135 Tryz.f135 [.imm false Y5,.imm false Y1] [.deep false Y5] ([v],(1:Int),()) = some ((([v]:List Int),()),()):=by kernel_rfl
theorem r135_2 (v:Int):runF 12 E135 Tryz.f135 [.imm false Y5,.imm false Y1] [.deep false Y5] ([v],(2:Int),()) = some ((([v,v]:List Int),()),()):=by kernel_rfl
theorem r135_3 (v:Int):runF 12 E135 Tryz.f135 [.imm false Y5,.imm false Y1] [.deep false Y5] ([v],(3:Int),()) = some ((([v,v,v]:List Int),()),()):=by kernel_rfl
theorem r135_4 (v:Int):runF 12 E135 Tryz.f135 [.imm false Y5,.imm false Y1] [.deep false Y5] ([v],(4:Int),()) = some ((([v,v,v,v]:List Int),()),()):=by kernel_rfl
theorem r135_5 (v:Int):runF 12 E135 Tryz.f135 [.imm false Y5,.imm false Y1] [.deep false Y5] ([v],(5:Int),()) = some ((([v,v,v,v,v]:List Int),()),()):=by kernel_rfl
theorem r135_6 (v:Int):runF 12 E135 Tryz.f135 [.imm false Y5,.imm false Y1] [.deep false Y5] ([v],(6:Int),()) = some ((([v,v,v,v,v,v]:List Int),()),()):=by kernel_rfl
theorem r135_7 (v:Int):runF 12 E135 Tryz.f135 [.imm false Y5,.imm false Y1] [.deep false Y5] ([v],(7:Int),()) = some ((([v,v,v,v,v,v,v]:List Int),()),()):=by kernel_rfl
theorem r135_8 (v:Int):runF 12 E135 Tryz.f135 [.imm false Y5,.imm false Y1] [.deep false Y5] ([v],(8:Int),()) = some ((([v,v,v,v,v,v,v,v]:List Int),()),()):=by kernel_rfl
theorem r135_9 (v:Int):runF 12 E135 Tryz.f135 [.imm false Y5,.imm false Y1] [.deep false Y5] ([v],(9:Int),()) = some ((([v,v,v,v,v,v,v,v,v]:List Int),()),()):=by kernel_rfl
theorem okf135:FOk Tryz.prog fa 135 s135:=fn_says env135 Tryz.func135 rfl fun x y h=>by
 obtain ⟨v,h1,h2⟩:=Repeat1_ok (P:=fun v n y=>runF 12 E135 Tryz.f135 [.imm false Y5,.imm false Y1] [.deep false Y5] ([v],n,()) = some y) (fun v n hn=>by
  match n,hn with
  | 0,_=>exact r135_0 v
  | 1,_=>exact r135_1 v
  | 2,_=>exact r135_2 v
  | 3,_=>exact r135_3 v
  | 4,_=>exact r135_4 v
  | 5,_=>exact r135_5 v
  | 6,_=>exact r135_6 v
  | 7,_=>exact r135_7 v
  | 8,_=>exact r135_8 v
  | 9,_=>exact r135_9 v
  | k + 10,hk=>omega) x y h
 obtain ⟨x1,x2,⟨⟩⟩:=x
 obtain rfl:x1 = [v]:=h1
 exact ⟨12,h2⟩
theorem enters135:Enters Tryz.prog 135:=enters Tryz.func135 (by kernel_rfl) rfl
theorem ok135:FnS Tryz.prog fa 135 s135:=⟨enters135,okf135,fun _=>rfl⟩
theorem enters222:Enters Tryz.prog 222:=enters Tryz.func222 (by kernel_rfl) rfl
theorem enters277:Enters Tryz.prog 277:=enters Tryz.func277 (by kernel_rfl) rfl
noncomputable def E231:Env:={ tab:=tab,clos:=[(222,⟨Tryz.f222,[],[(0,[1,9,10,11],[.drop 4]),(2,[1,4,9,10,11,16,17,18],[])]⟩),(277,⟨Tryz.f277,[],[]⟩)],inl:=[222,277] }
theorem r231 (N:Nat) (a0:T8):runF N E231 Tryz.f231 [.imm true Y53] [.deep false Y9] (a0,()) = p_impl_Table_committed N a0:=by kernel_rfl
noncomputable def s231:FSpec:=⟨[.imm true Y53],[.deep false Y9],fun x=>S_impl_Table_committed x.1,true⟩
theorem ok231:FnS Tryz.prog fa 231 s231:=fnAll (E:=E231) (h3:=⟨⟨Tryz.func222,enters222⟩,⟨Tryz.func277,enters277⟩,trivial⟩) mixed tabOk trivial Tryz.func231 (by kernel_rfl) rfl fun x y h=>let ⟨N,hN⟩:=lim_some h; ⟨N,(r231 N x.1).trans hN⟩
noncomputable def E224:Env:={ tab:=tab,sig:=[(274,s274)] }
theorem r224 (N:Nat) (a0:T7):runF N E224 Tryz.f224 [.imm true Y40] [.deep true Y40] (a0,()) = p_impl_Row_copied N a0:=by kernel_rfl
noncomputable def s224:FSpec:=⟨[.imm true Y40],[.deep true Y40],fun x=>S_impl_Row_copied x.1,true⟩
theorem ok224:FnS Tryz.prog fa 224 s224:=fnAll (E:=E224) mixed tabOk ⟨ok274,trivial⟩ Tryz.func224 (by kernel_rfl) rfl fun x y h=>⟨0,(r224 0 x.1).trans h⟩
noncomputable def E158:Env:={ tab:=tab,sig:=[(224,s224),(217,s217)] }
theorem r158 (N:Nat) (a0:T8) (a1:Int) (a2:Int):runF N E158 Tryz.f158 [.imm true Y53,.imm false Y1,.imm false Y1] [.deep true Y40] (a0,a1,a2,()) = p_impl_Table_row N a0 a1 a2:=by kernel_rfl
noncomputable def s158:FSpec:=⟨[.imm true Y53,.imm false Y1,.imm false Y1],[.deep true Y40],fun x=>S_impl_Table_row x.1 x.2.1 x.2.2.1,true⟩
theorem ok158:FnS Tryz.prog fa 158 s158:=fnAll (E:=E158) mixed tabOk ⟨ok224,ok217,trivial⟩ Tryz.func158 (by kernel_rfl) rfl fun x y h=>⟨0,(r158 0 x.1 x.2.1 x.2.2.1).trans h⟩
noncomputable def E278:Env:={ tab:=tab,live:=[(0,[3,9,10,11],[]),(2,[3,4,5,6,9,10,11],[])] }
theorem r278 (N:Nat) (a0:T6):runF N E278 Tryz.f278 [.imm true Y15] [.deep false Y9] (a0,()) = p_impl_hung N a0:=by kernel_rfl
noncomputable def s278:FSpec:=⟨[.imm true Y15],[.deep false Y9],fun x=>S_impl_hung x.1,true⟩
theorem ok278:FnS Tryz.prog fa 278 s278:=fnAll (E:=E278) mixed tabOk trivial Tryz.func278 (by kernel_rfl) rfl fun x y h=>let ⟨N,hN⟩:=lim_some h; ⟨N,(r278 N x.1).trans hN⟩
noncomputable def E150:Env:={ tab:=tab,live:=[(0,[0,1,7,8],[])] }
theorem r150 (N:Nat) (a0:List (List Int)) (a1:(List Int × Unit) → Option Bool):runF N E150 Tryz.f150 [.imm false Y9,.clo [(false,Y5)] .bool] [.imm false Y1] (a0,a1,()) = p_IndexFunc_LLint_Lint N a0 a1:=by kernel_rfl
noncomputable def s150:FSpec:=⟨[.imm false Y9,.clo [(false,Y5)] .bool],[.imm false Y1],fun x=>S_IndexFunc_LLint_Lint x.1 x.2.1,true⟩
theorem ok150:FnS Tryz.prog fa 150 s150:=fnAll (E:=E150) mixed tabOk trivial Tryz.func150 (by kernel_rfl) rfl fun x y h=>let ⟨N,hN⟩:=lim_some h; ⟨N,(r150 N x.1 x.2.1).trans hN⟩
noncomputable def E190:Env:={ tab:=tab,sig:=[(150,s150)] }
theorem r190 (N:Nat) (a0:List (List Int)) (a1:(List Int × Unit) → Option Bool):runF N E190 Tryz.f190 [.imm false Y9,.clo [(false,Y5)] .bool] [.imm false .bool] (a0,a1,()) = p_ContainsFunc_LLint_Lint N a0 a1:=by kernel_rfl
noncomputable def s190:FSpec:=⟨[.imm false Y9,.clo [(false,Y5)] .bool],[.imm false .bool],fun x=>S_ContainsFunc_LLint_Lint x.1 x.2.1,true⟩
theorem ok190:FnS Tryz.prog fa 190 s190:=fnAll (E:=E190) mixed tabOk ⟨ok150,trivial⟩ Tryz.func190 (by kernel_rfl) rfl fun x y h=>⟨0,(r190 0 x.1 x.2.1).trans h⟩
theorem enters191:Enters Tryz.prog 191:=enters Tryz.func191 (by kernel_rfl) rfl
noncomputable def E124:Env:={ tab:=tab,sig:=[(190,s190),(152,s152)],clos:=[(191,⟨Tryz.f191,[(false,Y5)],[]⟩)] }
theorem r124 (N:Nat) (a0:List (List Int)) (a1:List Int):runF N E124 Tryz.f124 [.imm false Y9,.imm false Y5] [.imm false .bool] (a0,a1,()) = p_impl_hasInstance N a0 a1:=by kernel_rfl
noncomputable def s124:FSpec:=⟨[.imm false Y9,.imm false Y5],[.imm false .bool],fun x=>S_impl_hasInstance x.1 x.2.1,true⟩
theorem ok124:FnS Tryz.prog fa 124 s124:=fnAll (E:=E124) (h3:=⟨⟨Tryz.func191,enters191⟩,trivial⟩) mixed tabOk ⟨ok190,ok152,trivial⟩ Tryz.func124 (by kernel_rfl) rfl fun x y h=>⟨0,(r124 0 x.1 x.2.1).trans h⟩
theorem enters279:Enters Tryz.prog 279:=enters Tryz.func279 (by kernel_rfl) rfl
noncomputable def E233:Env:={ tab:=tab,sig:=[(158,s158),(278,s278),(124,s124),(111,s111)],clos:=[(279,⟨Tryz.f279,[(false,Y5),(false,Y5)],[]⟩)],live:=[(0,[2,5,6,7],[.loose 3 []]),(2,[2,5,6,7,33,34,35],[.loose 2 [6],.loose 4 [6],.loose 3 [6]])],rfn:=[(109,⟨.sort,25,1,false⟩)],rsl:=[19] }
theorem r233 (N:Nat) (a0:T8) (a1:List Int):runF N E233 Tryz.f233 [.imm true Y53,.imm false Y5] [.imm false Y9] (a0,a1,()) = p_impl_Table_blockers N a0 a1:=by kernel_rfl
noncomputable def s233:FSpec:=⟨[.imm true Y53,.imm false Y5],[.imm false Y9],fun x=>S_impl_Table_blockers x.1 x.2.1,true⟩
theorem ok233:FnS Tryz.prog fa 233 s233:=fnAll (E:=E233) (h3:=⟨⟨Tryz.func279,enters279⟩,trivial⟩) (h5:=⟨rfn109,trivial⟩) mixed tabOk ⟨ok158,ok278,ok124,ok111,trivial⟩ Tryz.func233 (by kernel_rfl) rfl fun x y h=>let ⟨N,hN⟩:=lim_some h; ⟨N,(r233 N x.1 x.2.1).trans hN⟩
theorem enters232:Enters Tryz.prog 232:=enters Tryz.func232 (by kernel_rfl) rfl
noncomputable def E171:Env:={ tab:=tab,sig:=[(231,s231),(233,s233)],clos:=[(232,⟨Tryz.f232,[(false,Y5)],[]⟩)],rfn:=[(122,⟨.filter,25,1,false⟩)] }
theorem r171 (N:Nat) (a0:T8):runF N E171 Tryz.f171 [.imm true Y53] [.deep false Y9] (a0,()) = p_impl_Table_ready N a0:=by kernel_rfl
noncomputable def s171:FSpec:=⟨[.imm true Y53],[.deep false Y9],fun x=>S_impl_Table_ready x.1,true⟩
theorem ok171:FnS Tryz.prog fa 171 s171:=fnAll (E:=E171) (h3:=⟨⟨Tryz.func232,enters232⟩,trivial⟩) (h5:=⟨rfn122,trivial⟩) mixed tabOk ⟨ok231,ok233,trivial⟩ Tryz.func171 (by kernel_rfl) rfl fun x y h=>⟨0,(r171 0 x.1).trans h⟩
noncomputable def E100:Env:={ tab:=tab,sig:=[(171,s171),(124,s124)],live:=[(0,[3,4,11,12],[]),(2,[3,4,5,6,11,12],[])] }
theorem r100 (N:Nat) (a0:T8):runF N E100 Tryz.f100 [.imm true Y53] [.deep false Y5] (a0,()) = p_impl_Table_marks N a0:=by kernel_rfl
noncomputable def s100:FSpec:=⟨[.imm true Y53],[.deep false Y5],fun x=>S_impl_Table_marks x.1,true⟩
theorem ok100:FnS Tryz.prog fa 100 s100:=fnAll (E:=E100) mixed tabOk ⟨ok171,ok124,trivial⟩ Tryz.func100 (by kernel_rfl) rfl fun x y h=>let ⟨N,hN⟩:=lim_some h; ⟨N,(r100 N x.1).trans hN⟩
noncomputable def E64:Env:={ tab:=tab,sig:=[(134,s134),(135,s135),(100,s100)],live:=[(0,[4,18,19,20],[]),(2,[4,18,19,20,26,27,28],[])] }
theorem r64 (N:Nat) (a0:T13):runF N E64 Tryz.f64 [.imm true Y89] [.deep false Y5,.imm false .bool] (a0,()) = p_impl_CommonMarks N a0:=by kernel_rfl
noncomputable def s64:FSpec:=⟨[.imm true Y89],[.deep false Y5,.imm false .bool],fun x=>S_impl_CommonMarks x.1,true⟩
theorem ok64:FnS Tryz.prog fa 64 s64:=fnAll (E:=E64) mixed tabOk ⟨ok134,ok135,ok100,trivial⟩ Tryz.func64 (by kernel_rfl) rfl fun x y h=>let ⟨N,hN⟩:=lim_some h; ⟨N,(r64 N x.1).trans hN⟩
noncomputable def E44:Env:={ tab:=tab,live:=[(0,[0,1,5],[])] }
theorem r44 (N:Nat) (a0:List Int) (a1:List Int):runF N E44 Tryz.f44 [.imm false Y5,.imm false Y5] [.imm false .bool] (a0,a1,()) = p_laws_eqIntS N a0 a1:=by kernel_rfl
noncomputable def s44:FSpec:=⟨[.imm false Y5,.imm false Y5],[.imm false .bool],fun x=>S_laws_eqIntS x.1 x.2.1,true⟩
theorem ok44:FnS Tryz.prog fa 44 s44:=fnAll (E:=E44) mixed tabOk trivial Tryz.func44 (by kernel_rfl) rfl fun x y h=>let ⟨N,hN⟩:=lim_some h; ⟨N,(r44 N x.1 x.2.1).trans hN⟩
noncomputable def E192:Env:={ tab:=tab }
theorem r192 (N:Nat) (a0:T2) (a1:T2):runF N E192 Tryz.f192 [.imm true Y25,.imm true Y25] [.imm false .bool] (a0,a1,()) = p_laws_eqCmd N a0 a1:=by kernel_rfl
noncomputable def s192:FSpec:=⟨[.imm true Y25,.imm true Y25],[.imm false .bool],fun x=>S_laws_eqCmd x.1 x.2.1,true⟩
theorem ok192:FnS Tryz.prog fa 192 s192:=fnAll (E:=E192) mixed tabOk trivial Tryz.func192 (by kernel_rfl) rfl fun x y h=>⟨0,(r192 0 x.1 x.2.1).trans h⟩
noncomputable def E271:Env:={ tab:=tab,sig:=[(44,s44)] }
theorem r271 (N:Nat) (a0:T6) (a1:T6):runF N E271 Tryz.f271 [.imm true Y15,.imm true Y15] [.imm false .bool] (a0,a1,()) = p_laws_eqAttr N a0 a1:=by kernel_rfl
noncomputable def s271:FSpec:=⟨[.imm true Y15,.imm true Y15],[.imm false .bool],fun x=>S_laws_eqAttr x.1 x.2.1,true⟩
theorem ok271:FnS Tryz.prog fa 271 s271:=fnAll (E:=E271) mixed tabOk ⟨ok44,trivial⟩ Tryz.func271 (by kernel_rfl) rfl fun x y h=>⟨0,(r271 0 x.1 x.2.1).trans h⟩
noncomputable def E234:Env:={ tab:=tab,sig:=[(192,s192),(271,s271)] }
theorem r234 (N:Nat) (a0:T7) (a1:T7):runF N E234 Tryz.f234 [.imm true Y40,.imm true Y40] [.imm false .bool] (a0,a1,()) = p_laws_eqRow N a0 a1:=by kernel_rfl
noncomputable def s234:FSpec:=⟨[.imm true Y40,.imm true Y40],[.imm false .bool],fun x=>S_laws_eqRow x.1 x.2.1,true⟩
theorem ok234:FnS Tryz.prog fa 234 s234:=fnAll (E:=E234) mixed tabOk ⟨ok192,ok271,trivial⟩ Tryz.func234 (by kernel_rfl) rfl fun x y h=>⟨0,(r234 0 x.1 x.2.1).trans h⟩
noncomputable def E172:Env:={ tab:=tab,sig:=[(234,s234)],live:=[(0,[0,1,5],[])] }
theorem r172 (N:Nat) (a0:List T7) (a1:List T7):runF N E172 Tryz.f172 [.imm false Y41,.imm false Y41] [.imm false .bool] (a0,a1,()) = p_laws_eqRowS N a0 a1:=by kernel_rfl
noncomputable def s172:FSpec:=⟨[.imm false Y41,.imm false Y41],[.imm false .bool],fun x=>S_laws_eqRowS x.1 x.2.1,true⟩
theorem ok172:FnS Tryz.prog fa 172 s172:=fnAll (E:=E172) mixed tabOk ⟨ok234,trivial⟩ Tryz.func172 (by kernel_rfl) rfl fun x y h=>let ⟨N,hN⟩:=lim_some h; ⟨N,(r172 N x.1 x.2.1).trans hN⟩
end Go.Proofs.YtdcbankajhnepaaGreat.Am
