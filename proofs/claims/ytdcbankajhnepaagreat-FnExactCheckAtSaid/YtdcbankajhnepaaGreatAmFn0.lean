/- Functions, as they run on data. No condition. -/
import Derived.Test.YtdcbankajhnepaaGreatAmTab
import Derived.Test.YtdcbankajhnepaaGreatAmQ
set_option linter.unusedVariables false
set_option maxRecDepth 100000
namespace Go.Proofs.YtdcbankajhnepaaGreat.Am
open Go.AM Go.AM.P Go.Proofs Go.Shelf
noncomputable def E113:Env:={ tab:=tab }
theorem r113 (N:Nat) (a0:List Int) (a1:Int):runF N E113 Tryz.f113 [.imm false Y5,.imm false Y1] [.imm false Y1] (a0,a1,())=zcv N a0 a1:=by kernel_rfl
noncomputable def s113:FSpec:=⟨[.imm false Y5,.imm false Y1],[.imm false Y1],fun x=>z9b x.1 x.2.1,true⟩
theorem y9m:FnS Tryz.prog fa 113 s113:=z0h (E:=E113) mixed z0g trivial Tryz.func113 (by kernel_rfl) rfl fun x y h=>⟨0,(r113 0 x.1 x.2.1).trans h⟩
noncomputable def E257:Env:={ tab:=tab,sig:=[(113,s113)] }
theorem r257 (N:Nat) (a0:T6) (a1:Int):runF N E257 Tryz.f257 [.imm true Y15,.imm false Y1] [.imm false Y1] (a0,a1,())=zcw N a0 a1:=by kernel_rfl
noncomputable def s257:FSpec:=⟨[.imm true Y15,.imm false Y1],[.imm false Y1],fun x=>z9c x.1 x.2.1,true⟩
theorem y8a:FnS Tryz.prog fa 257 s257:=z0h (E:=E257) mixed z0g ⟨y9m,trivial⟩ Tryz.func257 (by kernel_rfl) rfl fun x y h=>⟨0,(r257 0 x.1 x.2.1).trans h⟩
noncomputable def E227:Env:={ tab:=tab,sig:=[(257,s257)] }
theorem r227 (N:Nat) (a0:T7) (a1:Int):runF N E227 Tryz.f227 [.imm true Y43,.imm false Y1] [.imm false Y1] (a0,a1,())=zej N a0 a1:=by kernel_rfl
noncomputable def s227:FSpec:=⟨[.imm true Y43,.imm false Y1],[.imm false Y1],fun x=>zar x.1 x.2.1,true⟩
theorem y8k:FnS Tryz.prog fa 227 s227:=z0h (E:=E227) mixed z0g ⟨y8a,trivial⟩ Tryz.func227 (by kernel_rfl) rfl fun x y h=>⟨0,(r227 0 x.1 x.2.1).trans h⟩
noncomputable def E168:Env:={ tab:=tab,sig:=[(227,s227)],live:=[(0,[0,1,5],[])] }
theorem r168 (N:Nat) (a0:List T7) (a1:Int):runF N E168 Tryz.f168 [.imm false Y45,.imm false Y1] [.imm false Y1] (a0,a1,())=zhg N a0 a1:=by kernel_rfl
noncomputable def s168:FSpec:=⟨[.imm false Y45,.imm false Y1],[.imm false Y1],fun x=>zdo x.1 x.2.1,true⟩
theorem y98:FnS Tryz.prog fa 168 s168:=z0h (E:=E168) mixed z0g ⟨y8k,trivial⟩ Tryz.func168 (by kernel_rfl) rfl fun x y h=>let ⟨N,hN⟩:=z0d h; ⟨N,(r168 N x.1 x.2.1).trans hN⟩
noncomputable def E97:Env:={ tab:=tab,sig:=[(168,s168)],live:=[(0,[0,1,5],[])] }
theorem r97 (N:Nat) (a0:List (List T7)) (a1:Int):runF N E97 Tryz.f97 [.imm false Y48,.imm false Y1] [.imm false Y1] (a0,a1,())=zg3 N a0 a1:=by kernel_rfl
noncomputable def s97:FSpec:=⟨[.imm false Y48,.imm false Y1],[.imm false Y1],fun x=>zbq x.1 x.2.1,true⟩
theorem ok97:FnS Tryz.prog fa 97 s97:=z0h (E:=E97) mixed z0g ⟨y98,trivial⟩ Tryz.func97 (by kernel_rfl) rfl fun x y h=>let ⟨N,hN⟩:=z0d h; ⟨N,(r97 N x.1 x.2.1).trans hN⟩
noncomputable def E40:Env:={ tab:=tab,sig:=[(97,s97)] }
theorem r40 (N:Nat) (a0:T8) (a1:Int):runF N E40 Tryz.f40 [.imm true Y57,.imm false Y1] [.imm false Y1] (a0,a1,())=zbe N a0 a1:=by kernel_rfl
noncomputable def s40:FSpec:=⟨[.imm true Y57,.imm false Y1],[.imm false Y1],fun x=>z7v x.1 x.2.1,true⟩
theorem ok40:FnS Tryz.prog fa 40 s40:=z0h (E:=E40) mixed z0g ⟨ok97,trivial⟩ Tryz.func40 (by kernel_rfl) rfl fun x y h=>⟨0,(r40 0 x.1 x.2.1).trans h⟩
noncomputable def E260:Env:={ tab:=tab }
theorem r260 (N:Nat) (a0:T2):runF N E260 Tryz.f260 [.imm true Y26] [.imm true Y26] (a0,())=zei N a0:=by kernel_rfl
noncomputable def s260:FSpec:=⟨[.imm true Y26],[.imm true Y26],fun x=>zaq x.1,true⟩
theorem y89:FnS Tryz.prog fa 260 s260:=z0h (E:=E260) mixed z0g trivial Tryz.func260 (by kernel_rfl) rfl fun x y h=>⟨0,(r260 0 x.1).trans h⟩
noncomputable def E119:Env:={ tab:=tab,live:=[(0,[0,3,4],[])] }
theorem r119 (N:Nat) (a0:List Int):runF N E119 Tryz.f119 [.imm false Y5] [.deep false Y5] (a0,())=zhf N a0:=by kernel_rfl
noncomputable def s119:FSpec:=⟨[.imm false Y5],[.deep false Y5],fun x=>zdn x.1,true⟩
theorem y9k:FnS Tryz.prog fa 119 s119:=z0h (E:=E119) mixed z0g trivial Tryz.func119 (by kernel_rfl) rfl fun x y h=>let ⟨N,hN⟩:=z0d h; ⟨N,(r119 N x.1).trans hN⟩
noncomputable def E261:Env:={ tab:=tab,sig:=[(119,s119)] }
theorem r261 (N:Nat) (a0:T6):runF N E261 Tryz.f261 [.imm true Y15] [.deep true Y15] (a0,())=zcu N a0:=by kernel_rfl
noncomputable def s261:FSpec:=⟨[.imm true Y15],[.deep true Y15],fun x=>z9a x.1,true⟩
theorem y88:FnS Tryz.prog fa 261 s261:=z0h (E:=E261) mixed z0g ⟨y9k,trivial⟩ Tryz.func261 (by kernel_rfl) rfl fun x y h=>⟨0,(r261 0 x.1).trans h⟩
noncomputable def E230:Env:={ tab:=tab,sig:=[(260,s260),(261,s261)] }
theorem r230 (N:Nat) (a0:T7):runF N E230 Tryz.f230 [.imm true Y43] [.deep true Y43] (a0,())=zeh N a0:=by kernel_rfl
noncomputable def s230:FSpec:=⟨[.imm true Y43],[.deep true Y43],fun x=>zap x.1,true⟩
theorem y8i:FnS Tryz.prog fa 230 s230:=z0h (E:=E230) mixed z0g ⟨y89,y88,trivial⟩ Tryz.func230 (by kernel_rfl) rfl fun x y h=>⟨0,(r230 0 x.1).trans h⟩
noncomputable def E170:Env:={ tab:=tab,sig:=[(230,s230)],live:=[(0,[0,3,4],[])] }
theorem r170 (N:Nat) (a0:List T7):runF N E170 Tryz.f170 [.imm false Y45] [.deep false Y44] (a0,())=zhe N a0:=by kernel_rfl
noncomputable def s170:FSpec:=⟨[.imm false Y45],[.deep false Y44],fun x=>zdm x.1,true⟩
theorem y96:FnS Tryz.prog fa 170 s170:=z0h (E:=E170) mixed z0g ⟨y8i,trivial⟩ Tryz.func170 (by kernel_rfl) rfl fun x y h=>let ⟨N,hN⟩:=z0d h; ⟨N,(r170 N x.1).trans hN⟩
noncomputable def E99:Env:={ tab:=tab,sig:=[(170,s170)],live:=[(0,[0,3,4],[])] }
theorem r99 (N:Nat) (a0:List (List T7)):runF N E99 Tryz.f99 [.imm false Y48] [.deep false Y47] (a0,())=zg2 N a0:=by kernel_rfl
noncomputable def s99:FSpec:=⟨[.imm false Y48],[.deep false Y47],fun x=>zbp x.1,true⟩
theorem ok99:FnS Tryz.prog fa 99 s99:=z0h (E:=E99) mixed z0g ⟨y96,trivial⟩ Tryz.func99 (by kernel_rfl) rfl fun x y h=>let ⟨N,hN⟩:=z0d h; ⟨N,(r99 N x.1).trans hN⟩
noncomputable def E42:Env:={ tab:=tab,sig:=[(99,s99)] }
theorem r42 (N:Nat) (a0:T8):runF N E42 Tryz.f42 [.imm true Y57] [.deep true Y56] (a0,())=zbd N a0:=by kernel_rfl
noncomputable def s42:FSpec:=⟨[.imm true Y57],[.deep true Y56],fun x=>z30 x.1,true⟩
theorem ok42:FnS Tryz.prog fa 42 s42:=z0h (E:=E42) mixed z0g ⟨ok99,trivial⟩ Tryz.func42 (by kernel_rfl) rfl fun x y h=>⟨0,(r42 0 x.1).trans h⟩
noncomputable def E89:Env:={ tab:=tab }
theorem r89 (N:Nat) (a0:Int):runF N E89 Tryz.f89 [.imm false Y1] [.imm false .bool] (a0,())=zba N a0:=by kernel_rfl
noncomputable def s89:FSpec:=⟨[.imm false Y1],[.imm false .bool],fun x=>z7t x.1,true⟩
theorem ok89:FnS Tryz.prog fa 89 s89:=z0h (E:=E89) mixed z0g trivial Tryz.func89 (by kernel_rfl) rfl fun x y h=>⟨0,(r89 0 x.1).trans h⟩
noncomputable def E90:Env:={ tab:=tab }
theorem r90 (N:Nat) (a0:Int) (a1:Int) (a2:Int):runF N E90 Tryz.f90 [.imm false Y1,.imm false Y1,.imm false Y1] [.imm false .bool] (a0,a1,a2,())=zgg N a0 a1 a2:=by kernel_rfl
noncomputable def s90:FSpec:=⟨[.imm false Y1,.imm false Y1,.imm false Y1],[.imm false .bool],fun x=>z0r x.1 x.2.1 x.2.2.1,true⟩
theorem ok90:FnS Tryz.prog fa 90 s90:=z0h (E:=E90) mixed z0g trivial Tryz.func90 (by kernel_rfl) rfl fun x y h=>⟨0,(r90 0 x.1 x.2.1 x.2.2.1).trans h⟩
noncomputable def E174:Env:={ tab:=tab }
theorem r174 (N:Nat) (a0:Int):runF N E174 Tryz.f174 [.imm false Y1] [.deep true Y15] (a0,())=zhd N a0:=by kernel_rfl
noncomputable def s174:FSpec:=⟨[.imm false Y1],[.deep true Y15],fun x=>z6m x.1,true⟩
theorem y25:FnS Tryz.prog fa 174 s174:=z0h (E:=E174) mixed z0g trivial Tryz.func174 (by kernel_rfl) rfl fun x y h=>⟨0,(r174 0 x.1).trans h⟩
noncomputable def E188:Env:={ tab:=tab,live:=[(0,[0,1,12,13],[])] }
theorem r188 (N:Nat) (a0:List Int) (a1:List Int):runF N E188 Tryz.f188 [.imm false Y5,.imm false Y5] [.imm false .bool] (a0,a1,())=zct N a0 a1:=by kernel_rfl
noncomputable def s188:FSpec:=⟨[.imm false Y5,.imm false Y5],[.imm false .bool],fun x=>z6n x.1 x.2.1,true⟩
theorem y6e:FnS Tryz.prog fa 188 s188:=z0h (E:=E188) mixed z0g trivial Tryz.func188 (by kernel_rfl) rfl fun x y h=>let ⟨N,hN⟩:=z0d h; ⟨N,(r188 N x.1 x.2.1).trans hN⟩
noncomputable def E219:Env:={ tab:=tab,sig:=[(188,s188)] }
theorem r219 (N:Nat) (a0:T6) (a1:T6):runF N E219 Tryz.f219 [.imm true Y15,.imm true Y15] [.imm false .bool] (a0,a1,())=z9r N a0 a1:=by kernel_rfl
noncomputable def s219:FSpec:=⟨[.imm true Y15,.imm true Y15],[.imm false .bool],fun x=>z6p x.1 x.2.1,true⟩
theorem y8n:FnS Tryz.prog fa 219 s219:=z0h (E:=E219) mixed z0g ⟨y6e,trivial⟩ Tryz.func219 (by kernel_rfl) rfl fun x y h=>⟨0,(r219 0 x.1 x.2.1).trans h⟩
noncomputable def E298:Env:={ tab:=tab,sig:=[(90,s90)] }
theorem r298 (N:Nat) (a0:Int):runF N E298 Tryz.f298 [.imm false Y1] [.imm false .bool] (a0,())=z8i N a0:=by kernel_rfl
noncomputable def s298:FSpec:=⟨[.imm false Y1],[.imm false .bool],fun x=>z3p x.1,true⟩
theorem y7z:FnS Tryz.prog fa 298 s298:=z0h (E:=E298) mixed z0g ⟨ok90,trivial⟩ Tryz.func298 (by kernel_rfl) rfl fun x y h=>⟨0,(r298 0 x.1).trans h⟩
noncomputable def E273:Env:={ tab:=tab,sig:=[(298,s298),(90,s90)] }
theorem r273 (N:Nat) (a0:T2):runF N E273 Tryz.f273 [.imm true Y26] [.imm false Y1] (a0,())=z95 N a0:=by kernel_rfl
noncomputable def s273:FSpec:=⟨[.imm true Y26],[.imm false Y1],fun x=>z3k x.1,true⟩
theorem y85:FnS Tryz.prog fa 273 s273:=z0h (E:=E273) mixed z0g ⟨y7z,ok90,trivial⟩ Tryz.func273 (by kernel_rfl) rfl fun x y h=>⟨0,(r273 0 x.1).trans h⟩
noncomputable def E220:Env:={ tab:=tab,sig:=[(273,s273)],eqs:=[(137,[false,false,false,false,false])] }
theorem r220 (N:Nat) (a0:T2):runF N E220 Tryz.f220 [.imm true Y26] [.imm false .bool] (a0,())=zbb N a0:=by kernel_rfl
noncomputable def s220:FSpec:=⟨[.imm true Y26],[.imm false .bool],fun x=>z7u x.1,true⟩
theorem y8m:FnS Tryz.prog fa 220 s220:=z0h (E:=E220) (h4:=⟨y0e,trivial⟩) mixed z0g ⟨y85,trivial⟩ Tryz.func220 (by kernel_rfl) rfl fun x y h=>⟨0,(r220 0 x.1).trans h⟩
noncomputable def E154:Env:={ tab:=tab,sig:=[(90,s90)],live:=[(0,[1,2,9,10,11],[])] }
theorem r154 (N:Nat) (a0:List Int) (a1:Int) (a2:Int):runF N E154 Tryz.f154 [.imm false Y5,.imm false Y1,.imm false Y1] [.imm false .bool] (a0,a1,a2,())=zeg N a0 a1 a2:=by kernel_rfl
noncomputable def s154:FSpec:=⟨[.imm false Y5,.imm false Y1,.imm false Y1],[.imm false .bool],fun x=>zao x.1 x.2.1 x.2.2.1,true⟩
theorem y9c:FnS Tryz.prog fa 154 s154:=z0h (E:=E154) mixed z0g ⟨ok90,trivial⟩ Tryz.func154 (by kernel_rfl) rfl fun x y h=>let ⟨N,hN⟩:=z0d h; ⟨N,(r154 N x.1 x.2.1 x.2.2.1).trans hN⟩
noncomputable def E221:Env:={ tab:=tab,sig:=[(90,s90),(154,s154)] }
theorem r221 (N:Nat) (a0:Int) (a1:T6):runF N E221 Tryz.f221 [.imm false Y1,.imm true Y15] [.imm false .bool] (a0,a1,())=zcs N a0 a1:=by kernel_rfl
noncomputable def s221:FSpec:=⟨[.imm false Y1,.imm true Y15],[.imm false .bool],fun x=>z99 x.1 x.2.1,true⟩
theorem y8l:FnS Tryz.prog fa 221 s221:=z0h (E:=E221) mixed z0g ⟨ok90,y9c,trivial⟩ Tryz.func221 (by kernel_rfl) rfl fun x y h=>⟨0,(r221 0 x.1 x.2.1).trans h⟩
noncomputable def E155:Env:={ tab:=tab,sig:=[(90,s90),(174,s174),(219,s219),(220,s220),(221,s221)],eqs:=[(137,[false,false,false,false,false])] }
theorem r155 (N:Nat) (a0:Int) (a1:T7):runF N E155 Tryz.f155 [.imm false Y1,.imm true Y43] [.imm false .bool] (a0,a1,())=zeb N a0 a1:=by kernel_rfl
noncomputable def s155:FSpec:=⟨[.imm false Y1,.imm true Y43],[.imm false .bool],fun x=>zam x.1 x.2.1,true⟩
theorem y9b:FnS Tryz.prog fa 155 s155:=z0h (E:=E155) (h4:=⟨y0e,trivial⟩) mixed z0g ⟨ok90,y25,y8n,y8m,y8l,trivial⟩ Tryz.func155 (by kernel_rfl) rfl fun x y h=>⟨0,(r155 0 x.1 x.2.1).trans h⟩
noncomputable def E72:Env:={ tab:=tab,sig:=[(89,s89),(155,s155)],live:=[(0,[1,20,21,22],[]),(2,[1,4,20,21,22,26,27,28],[])] }
theorem r72 (N:Nat) (a0:T8):runF N E72 Tryz.f72 [.imm true Y56] [.imm false .bool] (a0,())=z8j N a0:=by kernel_rfl
noncomputable def s72:FSpec:=⟨[.imm true Y56],[.imm false .bool],fun x=>z5j x.1,true⟩
theorem ok72:FnS Tryz.prog fa 72 s72:=z0h (E:=E72) mixed z0g ⟨ok89,y9b,trivial⟩ Tryz.func72 (by kernel_rfl) rfl fun x y h=>let ⟨N,hN⟩:=z0d h; ⟨N,(r72 N x.1).trans hN⟩
noncomputable def E228:Env:={ tab:=tab,live:=[(0,[3,9,10,11],[]),(2,[3,4,9,10,11,16,17,18],[])] }
theorem r228 (N:Nat) (a0:T8):runF N E228 Tryz.f228 [.imm true Y56] [.deep false Y9] (a0,())=z65 N a0:=by kernel_rfl
noncomputable def s228:FSpec:=⟨[.imm true Y56],[.deep false Y9],fun x=>z2u x.1,true⟩
theorem y6c:FnS Tryz.prog fa 228 s228:=z0h (E:=E228) mixed z0g trivial Tryz.func228 (by kernel_rfl) rfl fun x y h=>let ⟨N,hN⟩:=z0d h; ⟨N,(r228 N x.1).trans hN⟩
noncomputable def E115:Env:={ tab:=tab }
theorem r115 (N:Nat) (a0:List Int):runF N E115 Tryz.f115 [.imm false Y5] [.deep false Y5] (a0,())=zaf N a0:=by kernel_rfl
noncomputable def s115:FSpec:=⟨[.imm false Y5],[.deep false Y5],fun x=>z2e x.1,true⟩
theorem y28:FnS Tryz.prog fa 115 s115:=z0h (E:=E115) mixed z0g trivial Tryz.func115 (by kernel_rfl) rfl fun x y h=>⟨0,(r115 0 x.1).trans h⟩
noncomputable def E239:Env:={ tab:=tab,sig:=[(115,s115)] }
theorem r239 (N:Nat) (a0:T6):runF N E239 Tryz.f239 [.imm true Y15] [.deep true Y15] (a0,())=z5f N a0:=by kernel_rfl
noncomputable def s239:FSpec:=⟨[.imm true Y15],[.deep true Y15],fun x=>z5i x.1,true⟩
theorem y8d:FnS Tryz.prog fa 239 s239:=z0h (E:=E239) mixed z0g ⟨y28,trivial⟩ Tryz.func239 (by kernel_rfl) rfl fun x y h=>⟨0,(r239 0 x.1).trans h⟩
noncomputable def E177:Env:={ tab:=tab,sig:=[(239,s239)] }
theorem r177 (N:Nat) (a0:T7):runF N E177 Tryz.f177 [.imm true Y43] [.deep true Y43] (a0,())=z64 N a0:=by kernel_rfl
noncomputable def s177:FSpec:=⟨[.imm true Y43],[.deep true Y43],fun x=>z35 x.1,true⟩
theorem y6f:FnS Tryz.prog fa 177 s177:=z0h (E:=E177) mixed z0g ⟨y8d,trivial⟩ Tryz.func177 (by kernel_rfl) rfl fun x y h=>⟨0,(r177 0 x.1).trans h⟩
noncomputable def E104:Env:={ tab:=tab,sig:=[(174,s174),(177,s177)] }
theorem r104 (N:Nat) (a0:T8) (a1:Int) (a2:Int):runF N E104 Tryz.f104 [.imm true Y56,.imm false Y1,.imm false Y1] [.deep true Y43] (a0,a1,a2,())=zgf N a0 a1 a2:=by kernel_rfl
noncomputable def s104:FSpec:=⟨[.imm true Y56,.imm false Y1,.imm false Y1],[.deep true Y43],fun x=>z5t x.1 x.2.1 x.2.2.1,true⟩
theorem zzx:FnS Tryz.prog fa 104 s104:=z0h (E:=E104) mixed z0g ⟨y25,y6f,trivial⟩ Tryz.func104 (by kernel_rfl) rfl fun x y h=>⟨0,(r104 0 x.1 x.2.1 x.2.2.1).trans h⟩
noncomputable def E235:Env:={ tab:=tab,sig:=[(104,s104)],live:=[(0,[1,2,8,18,19,20,34,35,36],[]),(2,[1,2,8,9,10,11,18,19,20,34,35,36],[])] }
theorem r235 (N:Nat) (a0:T8) (a1:Int) (a2:Int):runF N E235 Tryz.f235 [.imm true Y56,.imm false Y1,.imm false Y1] [.deep false Y9] (a0,a1,a2,())=zcr N a0 a1 a2:=by kernel_rfl
noncomputable def s235:FSpec:=⟨[.imm true Y56,.imm false Y1,.imm false Y1],[.deep false Y9],fun x=>z6k x.1 x.2.1 x.2.2.1,true⟩
theorem y6a:FnS Tryz.prog fa 235 s235:=z0h (E:=E235) mixed z0g ⟨zzx,trivial⟩ Tryz.func235 (by kernel_rfl) rfl fun x y h=>let ⟨N,hN⟩:=z0d h; ⟨N,(r235 N x.1 x.2.1 x.2.2.1).trans hN⟩
noncomputable def E116:Env:={ tab:=tab,sig:=[(188,s188)],live:=[(0,[1,7,8,9],[])] }
theorem r116 (N:Nat) (a0:List (List Int)) (a1:List Int):runF N E116 Tryz.f116 [.imm false Y9,.imm false Y5] [.imm false Y1] (a0,a1,())=zcq N a0 a1:=by kernel_rfl
noncomputable def s116:FSpec:=⟨[.imm false Y9,.imm false Y5],[.imm false Y1],fun x=>z1u x.1 x.2.1,true⟩
theorem y27:FnS Tryz.prog fa 116 s116:=z0h (E:=E116) mixed z0g ⟨y6e,trivial⟩ Tryz.func116 (by kernel_rfl) rfl fun x y h=>let ⟨N,hN⟩:=z0d h; ⟨N,(r116 N x.1 x.2.1).trans hN⟩
noncomputable def E103:Env:={ tab:=tab,live:=[(0,[0,1,5,13,14,15,16,17,18,19,20,21,22,23,24,25,26,27,28,29,30,31,32,33,34,35,36,37,38,39,40,41,42,43,44,45,46,47,48,49],[])] }
theorem r103 (N:Nat) (a0:List (List Int)) (a1:List Int):runF N E103 Tryz.f103 [.imm false Y9,.imm false Y5] [.imm false Y9] (a0,a1,())=z9o N a0 a1:=by kernel_rfl
noncomputable def s103:FSpec:=⟨[.imm false Y9,.imm false Y5],[.imm false Y9],fun x=>z4j x.1 x.2.1,true⟩
theorem y6i:FnS Tryz.prog fa 103 s103:=z0h (E:=E103) mixed z0g trivial Tryz.func103 (by kernel_rfl) rfl fun x y h=>let ⟨N,hN⟩:=z0d h; ⟨N,(r103 N x.1 x.2.1).trans hN⟩
noncomputable def E229:Env:={ tab:=tab,sig:=[(235,s235),(116,s116),(104,s104),(103,s103)],live:=[(0,[3,7,8,9,46,47,48,49],[.frz (.r 8) 25 Y5,.loose 3 []]),(2,[3,7,8,9,35,36,37,46,47,48,49],[.loose 3 [5],.lean (.r 8) [5]])] }
theorem r229 (N:Nat) (a0:T8) (a1:Int) (a2:Int):runF N E229 Tryz.f229 [.imm true Y56,.imm false Y1,.imm false Y1] [.imm false Y9] (a0,a1,a2,())=z75 N a0 a1 a2:=by kernel_rfl
noncomputable def s229:FSpec:=⟨[.imm true Y56,.imm false Y1,.imm false Y1],[.imm false Y9],fun x=>z4u x.1 x.2.1 x.2.2.1,true⟩
theorem y8j:FnS Tryz.prog fa 229 s229:=z0h (E:=E229) mixed z0g ⟨y6a,y27,zzx,y6i,trivial⟩ Tryz.func229 (by kernel_rfl) rfl fun x y h=>let ⟨N,hN⟩:=z0d h; ⟨N,(r229 N x.1 x.2.1 x.2.2.1).trans hN⟩
noncomputable def E169:Env:={ tab:=tab,sig:=[(228,s228),(229,s229)],live:=[(0,[1,3,7,8,9],[.loose 2 [3]])] }
theorem r169 (N:Nat) (a0:T8):runF N E169 Tryz.f169 [.imm true Y56] [.imm false Y9] (a0,())=zb3 N a0:=by kernel_rfl
noncomputable def s169:FSpec:=⟨[.imm true Y56],[.imm false Y9],fun x=>z7m x.1,true⟩
theorem y97:FnS Tryz.prog fa 169 s169:=z0h (E:=E169) mixed z0g ⟨y6c,y8j,trivial⟩ Tryz.func169 (by kernel_rfl) rfl fun x y h=>let ⟨N,hN⟩:=z0d h; ⟨N,(r169 N x.1).trans hN⟩
noncomputable def E143:Env:={ tab:=tab }
theorem r143 (N:Nat) (a0:Int):runF N E143 Tryz.f143 [.imm false Y1] [.deep true Y56] (a0,())=zed N a0:=by kernel_rfl
noncomputable def s143:FSpec:=⟨[.imm false Y1],[.deep true Y56],fun x=>zff x.1,true⟩
theorem y9g:FnS Tryz.prog fa 143 s143:=z0h (E:=E143) mixed z0g trivial Tryz.func143 (by kernel_rfl) rfl fun x y h=>⟨0,(r143 0 x.1).trans h⟩
noncomputable def E173:Env:={ tab:=tab,sig:=[(143,s143),(177,s177)],live:=[(0,[2,3,12,13,14],[]),(2,[2,3,4,12,13,14,19,20,21],[])],app:=[36] }
theorem r173 (N:Nat) (a0:T8):runF N E173 Tryz.f173 [.imm true Y56] [.deep true Y56] (a0,())=zec N a0:=by kernel_rfl
noncomputable def s173:FSpec:=⟨[.imm true Y56],[.deep true Y56],fun x=>zan x.1,true⟩
theorem y93:FnS Tryz.prog fa 173 s173:=z0h (E:=E173) mixed z0g ⟨y9g,y6f,trivial⟩ Tryz.func173 (by kernel_rfl) rfl fun x y h=>let ⟨N,hN⟩:=z0d h; ⟨N,(r173 N x.1).trans hN⟩
noncomputable def E236:Env:={ tab:=tab,live:=[(0,[0,1,5,12,13,14,15,16,17,26,27,28,29,30,31],[])] }
theorem r236 (N:Nat) (a0:List Int) (a1:Int):runF N E236 Tryz.f236 [.imm false Y5,.imm false Y1] [.imm false Y5] (a0,a1,())=zee N a0 a1:=by kernel_rfl
noncomputable def s236:FSpec:=⟨[.imm false Y5,.imm false Y1],[.imm false Y5],fun x=>z8c x.1 x.2.1,true⟩
theorem y69:FnS Tryz.prog fa 236 s236:=z0h (E:=E236) mixed z0g trivial Tryz.func236 (by kernel_rfl) rfl fun x y h=>let ⟨N,hN⟩:=z0d h; ⟨N,(r236 N x.1 x.2.1).trans hN⟩
noncomputable def E175:Env:={ tab:=tab,sig:=[(228,s228),(235,s235),(116,s116),(236,s236)],live:=[(0,[1,4,5,14,15,16],[.loose 4 []]),(2,[1,4,5,8,14,15,16,27,28,29],[.frz (.r 8) 3 Y1])] }
theorem r175 (N:Nat) (a0:T8):runF N E175 Tryz.f175 [.imm true Y56] [.deep false Y9,.imm false Y9] (a0,())=zb5 N a0:=by kernel_rfl
noncomputable def s175:FSpec:=⟨[.imm true Y56],[.deep false Y9,.imm false Y9],fun x=>z7o x.1,true⟩
theorem y92:FnS Tryz.prog fa 175 s175:=z0h (E:=E175) mixed z0g ⟨y6c,y6a,y27,y69,trivial⟩ Tryz.func175 (by kernel_rfl) rfl fun x y h=>let ⟨N,hN⟩:=z0d h; ⟨N,(r175 N x.1).trans hN⟩
noncomputable def E276:Env:={ tab:=tab,live:=[(0,[1,7,8,9],[])] }
theorem r276 (N:Nat) (a0:List Int) (a1:Int):runF N E276 Tryz.f276 [.imm false Y5,.imm false Y1] [.imm false .bool] (a0,a1,())=zef N a0 a1:=by kernel_rfl
noncomputable def s276:FSpec:=⟨[.imm false Y5,.imm false Y1],[.imm false .bool],fun x=>z5z x.1 x.2.1,true⟩
theorem y23:FnS Tryz.prog fa 276 s276:=z0h (E:=E276) mixed z0g trivial Tryz.func276 (by kernel_rfl) rfl fun x y h=>let ⟨N,hN⟩:=z0d h; ⟨N,(r276 N x.1 x.2.1).trans hN⟩
noncomputable def E299:Env:={ tab:=tab,sig:=[(276,s276),(236,s236)],live:=[(0,[0,5,6,7],[.frz (.r 5) 3 Y1]),(2,[0,5,6,7,26,27,28],[])] }
theorem r299 (N:Nat) (a0:List (List Int)) (a1:Int):runF N E299 Tryz.f299 [.imm false Y9,.imm false Y1] [.imm false Y5] (a0,a1,())=z8h N a0 a1:=by kernel_rfl
noncomputable def s299:FSpec:=⟨[.imm false Y9,.imm false Y1],[.imm false Y5],fun x=>z5h x.1 x.2.1,true⟩
theorem y7y:FnS Tryz.prog fa 299 s299:=z0h (E:=E299) mixed z0g ⟨y23,y69,trivial⟩ Tryz.func299 (by kernel_rfl) rfl fun x y h=>let ⟨N,hN⟩:=z0d h; ⟨N,(r299 N x.1 x.2.1).trans hN⟩
noncomputable def E280:Env:={ tab:=tab,sig:=[(299,s299),(276,s276)],live:=[(0,[0,3,11,12],[.loose 1 []]),(2,[3,5,23,24],[]),(4,[3,5,6,7,23,24,30,31,32],[])] }
theorem r280 (N:Nat) (a0:List (List Int)):runF N E280 Tryz.f280 [.imm false Y9] [.deep false Y9] (a0,())=z9p N a0:=by kernel_rfl
noncomputable def s280:FSpec:=⟨[.imm false Y9],[.deep false Y9],fun x=>z6l x.1,true⟩
theorem y82:FnS Tryz.prog fa 280 s280:=z0h (E:=E280) mixed z0g ⟨y7y,y23,trivial⟩ Tryz.func280 (by kernel_rfl) rfl fun x y h=>let ⟨N,hN⟩:=z0d h; ⟨N,(r280 N x.1).trans hN⟩
noncomputable def E237:Env:={ tab:=tab,sig:=[(280,s280),(276,s276)],live:=[(0,[0,3,4,48,49,50,51,52,53,54,55,56,57,58,59],[.frz (.r 3) 25 Y5,.loose 1 []]),(2,[0,3,4,20,21,22,48,49,50,51,52,53,54,55,56,57,58,59],[]),(4,[0,3,4,5,6,7,20,21,22,27,28,29,48,49,50,51,52,53,54,55,56,57,58,59],[]),(6,[0,3,4,5,6,7,9,20,21,22,27,28,29,33,34,35,48,49,50,51,52,53,54,55,56,57,58,59],[]),(8,[0,3,4,5,6,7,9,10,20,21,22,27,28,29,33,34,35,40,41,42,48,49,50,51,52,53,54,55,56,57,58,59],[])],imm:=[16,18,21,28,34,41,57,68,73,79] }
theorem r237 (N:Nat) (a0:List (List Int)):runF N E237 Tryz.f237 [.imm false Y9] [.imm false Y9] (a0,())=z5p N a0:=by kernel_rfl
noncomputable def s237:FSpec:=⟨[.imm false Y9],[.imm false Y9],fun x=>z3j x.1,true⟩
theorem y8f:FnS Tryz.prog fa 237 s237:=z0h (E:=E237) mixed z0g ⟨y82,y23,trivial⟩ Tryz.func237 (by kernel_rfl) rfl fun x y h=>let ⟨N,hN⟩:=z0d h; ⟨N,(r237 N x.1).trans hN⟩
end Go.Proofs.YtdcbankajhnepaaGreat.Am
