/- Functions, as they run on data. No condition. -/
import Derived.Test.YtdcbankajhnepaaGreatAmFn0
set_option linter.unusedVariables false
set_option maxRecDepth 100000
namespace Go.Proofs.YtdcbankajhnepaaGreat.Am
open Go.AM Go.AM.P Go.Proofs Go.Shelf
noncomputable def E238:Env:={ tab:=tab,sig:=[(115,s115)],live:=[(0,[1,5,10,11,12,21,22,23,24,25,26,27,28,29,30,31,32,33],[]),(2,[1,5,7,8,10,11,12,21,22,23,24,25,26,27,28,29,30,31,32,33],[])],rsl:=[43] }
theorem r238 (N:Nat) (a0:List Int) (a1:List Int):runF N E238 Tryz.f238 [.imm false Y5,.imm false Y5] [.deep false Y5] (a0,a1,())=zb7 N a0 a1:=by kernel_rfl
noncomputable def s238:FSpec:=⟨[.imm false Y5,.imm false Y5],[.deep false Y5],fun x=>z7q x.1 x.2.1,true⟩
theorem y8e:FnS Tryz.prog fa 238 s238:=z0h (E:=E238) mixed z0g ⟨y28,trivial⟩ Tryz.func238 (by kernel_rfl) rfl fun x y h=>let ⟨N,hN⟩:=z0d h; ⟨N,(r238 N x.1 x.2.1).trans hN⟩
noncomputable def E176:Env:={ tab:=tab,sig:=[(237,s237),(238,s238)],live:=[(0,[1,5,9,10,11],[])] }
theorem r176 (N:Nat) (a0:List (List Int)) (a1:List Int):runF N E176 Tryz.f176 [.imm false Y9,.imm false Y5] [.deep false Y5] (a0,a1,())=zb6 N a0 a1:=by kernel_rfl
noncomputable def s176:FSpec:=⟨[.imm false Y9,.imm false Y5],[.deep false Y5],fun x=>z7p x.1 x.2.1,true⟩
theorem y91:FnS Tryz.prog fa 176 s176:=z0h (E:=E176) mixed z0g ⟨y8f,y8e,trivial⟩ Tryz.func176 (by kernel_rfl) rfl fun x y h=>let ⟨N,hN⟩:=z0d h; ⟨N,(r176 N x.1 x.2.1).trans hN⟩
noncomputable def E102:Env:={ tab:=tab,sig:=[(169,s169),(173,s173),(116,s116),(174,s174),(175,s175),(104,s104),(176,s176)],live:=[(0,[1,3,4,21,22],[]),(2,[1,3,4,5,21,22,30,31],[]),(4,[1,7,8,9,59,60,61],[]),(6,[7,12,91,92,93],[.loose 6 [4]])] }
theorem r102 (N:Nat) (a0:T8):runF N E102 Tryz.f102 [.imm true Y56] [.imm false Y9] (a0,())=zb4 N a0:=by kernel_rfl
noncomputable def s102:FSpec:=⟨[.imm true Y56],[.imm false Y9],fun x=>z7n x.1,true⟩
theorem y9r:FnS Tryz.prog fa 102 s102:=z0h (E:=E102) mixed z0g ⟨y97,y93,y27,y25,y92,zzx,y91,trivial⟩ Tryz.func102 (by kernel_rfl) rfl fun x y h=>let ⟨N,hN⟩:=z0d h; ⟨N,(r102 N x.1).trans hN⟩
noncomputable def E178:Env:={ tab:=tab,live:=[(0,[1,2],[])] }
theorem r178 (N:Nat)  : runF N E178 Tryz.f178 [] [.deep false Y5] (())=zb9 N  := by kernel_rfl
noncomputable def s178:FSpec:=⟨[],[.deep false Y5],fun x=>z7s ,true⟩
theorem y90:FnS Tryz.prog fa 178 s178:=z0h (E:=E178) mixed z0g trivial Tryz.func178 (by kernel_rfl) rfl fun x y h=>let ⟨N,hN⟩:=z0d h; ⟨N,(r178 N ).trans hN⟩
noncomputable def E117:Env:={ tab:=tab,sig:=[(115,s115)] }
theorem r117 (N:Nat) (a0:List Int) (a1:T2):runF N E117 Tryz.f117 [.imm false Y5,.imm true Y26] [.deep false Y5,.imm true Y13] (a0,a1,())=z9q N a0 a1:=by kernel_rfl
noncomputable def s117:FSpec:=⟨[.imm false Y5,.imm true Y26],[.deep false Y5,.imm true Y13],fun x=>z6o x.1 x.2.1,true⟩
theorem y9l:FnS Tryz.prog fa 117 s117:=z0h (E:=E117) mixed z0g ⟨y28,trivial⟩ Tryz.func117 (by kernel_rfl) rfl fun x y h=>⟨0,(r117 0 x.1 x.2.1).trans h⟩
noncomputable def E105:Env:={ tab:=tab,sig:=[(178,s178),(117,s117)],live:=[(0,[4,5,11,12,13],[.frz (.r 4) 3 Y1])] }
theorem r105 (N:Nat) (a0:List T2):runF N E105 Tryz.f105 [.imm false Y27] [.imm false Y5,.deep false Y17] (a0,())=zb8 N a0:=by kernel_rfl
noncomputable def s105:FSpec:=⟨[.imm false Y27],[.imm false Y5,.deep false Y17],fun x=>z7r x.1,true⟩
theorem y9q:FnS Tryz.prog fa 105 s105:=z0h (E:=E105) mixed z0g ⟨y90,y9l,trivial⟩ Tryz.func105 (by kernel_rfl) rfl fun x y h=>let ⟨N,hN⟩:=z0d h; ⟨N,(r105 N x.1).trans hN⟩
noncomputable def E49:Env:={ tab:=tab,sig:=[(72,s72),(102,s102),(90,s90),(103,s103),(104,s104),(105,s105)],live:=[(0,[2,4,7,8,27,28,29],[.frz (.b 2 0) 25 Y5])] }
theorem r49 (N:Nat) (a0:T8) (a1:Int):runF N E49 Tryz.f49 [.imm true Y56,.imm false Y1] [.imm true Y23,.imm false .bool] (a0,a1,())=zbc N a0 a1:=by kernel_rfl
noncomputable def s49:FSpec:=⟨[.imm true Y56,.imm false Y1],[.imm true Y23,.imm false .bool],fun x=>z5b x.1 x.2.1,true⟩
theorem ok49:FnS Tryz.prog fa 49 s49:=z0h (E:=E49) mixed z0g ⟨ok72,y9r,ok90,y6i,zzx,y9q,trivial⟩ Tryz.func49 (by kernel_rfl) rfl fun x y h=>let ⟨N,hN⟩:=z0d h; ⟨N,(r49 N x.1 x.2.1).trans hN⟩
noncomputable def E77:Env:={ tab:=tab }
theorem r77 (N:Nat) (a0:Int):runF N E77 Tryz.f77 [.imm false Y1] [.imm false .bool] (a0,())=zbk N a0:=by kernel_rfl
noncomputable def s77:FSpec:=⟨[.imm false Y1],[.imm false .bool],fun x=>z5c x.1,true⟩
theorem ok77:FnS Tryz.prog fa 77 s77:=z0h (E:=E77) mixed z0g trivial Tryz.func77 (by kernel_rfl) rfl fun x y h=>⟨0,(r77 0 x.1).trans h⟩
noncomputable def E78:Env:={ tab:=tab }
theorem r78 (N:Nat) (a0:Int) (a1:Int) (a2:Int):runF N E78 Tryz.f78 [.imm false Y1,.imm false Y1,.imm false Y1] [.imm false .bool] (a0,a1,a2,())=zcz N a0 a1 a2:=by kernel_rfl
noncomputable def s78:FSpec:=⟨[.imm false Y1,.imm false Y1,.imm false Y1],[.imm false .bool],fun x=>z0y x.1 x.2.1 x.2.2.1,true⟩
theorem ok78:FnS Tryz.prog fa 78 s78:=z0h (E:=E78) mixed z0g trivial Tryz.func78 (by kernel_rfl) rfl fun x y h=>⟨0,(r78 0 x.1 x.2.1 x.2.2.1).trans h⟩
noncomputable def E265:Env:={ tab:=tab,sig:=[(78,s78)] }
theorem r265 (N:Nat) (a0:Int):runF N E265 Tryz.f265 [.imm false Y1] [.imm false .bool] (a0,())=z8n N a0:=by kernel_rfl
noncomputable def s265:FSpec:=⟨[.imm false Y1],[.imm false .bool],fun x=>z2q x.1,true⟩
theorem y87:FnS Tryz.prog fa 265 s265:=z0h (E:=E265) mixed z0g ⟨ok78,trivial⟩ Tryz.func265 (by kernel_rfl) rfl fun x y h=>⟨0,(r265 0 x.1).trans h⟩
noncomputable def E206:Env:={ tab:=tab,sig:=[(78,s78),(265,s265)],eqs:=[(137,[false,false,false,false,false])] }
theorem r206 (N:Nat) (a0:T2):runF N E206 Tryz.f206 [.imm true Y26] [.imm false .bool] (a0,())=zbl N a0:=by kernel_rfl
noncomputable def s206:FSpec:=⟨[.imm true Y26],[.imm false .bool],fun x=>z80 x.1,true⟩
theorem y8s:FnS Tryz.prog fa 206 s206:=z0h (E:=E206) (h4:=⟨y0e,trivial⟩) mixed z0g ⟨ok78,y87,trivial⟩ Tryz.func206 (by kernel_rfl) rfl fun x y h=>⟨0,(r206 0 x.1).trans h⟩
noncomputable def E161:Env:={ tab:=tab,live:=[(0,[0,1,7,8],[])] }
theorem r161 (N:Nat) (a0:List Int) (a1:(Int×Unit)→Option Bool):runF N E161 Tryz.f161 [.imm false Y5,.clo [(false,Y1)] .bool] [.imm false Y1] (a0,a1,())=z91 N a0 a1:=by kernel_rfl
noncomputable def s161:FSpec:=⟨[.imm false Y5,.clo [(false,Y1)] .bool],[.imm false Y1],fun x=>z56 x.1 x.2.1,true⟩
theorem y9a:FnS Tryz.prog fa 161 s161:=z0h (E:=E161) mixed z0g trivial Tryz.func161 (by kernel_rfl) rfl fun x y h=>let ⟨N,hN⟩:=z0d h; ⟨N,(r161 N x.1 x.2.1).trans hN⟩
noncomputable def E80:Env:={ tab:=tab,sig:=[(161,s161)] }
theorem r80 (N:Nat) (a0:List Int) (a1:(Int×Unit)→Option Bool):runF N E80 Tryz.f80 [.imm false Y5,.clo [(false,Y1)] .bool] [.imm false .bool] (a0,a1,())=z3e N a0 a1:=by kernel_rfl
noncomputable def s80:FSpec:=⟨[.imm false Y5,.clo [(false,Y1)] .bool],[.imm false .bool],fun x=>z1f x.1 x.2.1,true⟩
theorem ok80:FnS Tryz.prog fa 80 s80:=z0h (E:=E80) mixed z0g ⟨y9a,trivial⟩ Tryz.func80 (by kernel_rfl) rfl fun x y h=>⟨0,(r80 0 x.1 x.2.1).trans h⟩
theorem zy6:z1m Tryz.prog 272:=enters Tryz.func272 (by kernel_rfl) rfl
noncomputable def E215:Env:={ tab:=tab,sig:=[(77,s77),(78,s78),(80,s80)],clos:=[(272,⟨Tryz.f272,[(false,Y1)],[],[],[],[],[]⟩)] }
theorem r215 (N:Nat) (a0:Int) (a1:T6):runF N E215 Tryz.f215 [.imm false Y1,.imm true Y15] [.imm false .bool] (a0,a1,())=z9x N a0 a1:=by kernel_rfl
noncomputable def s215:FSpec:=⟨[.imm false Y1,.imm true Y15],[.imm false .bool],fun x=>z6s x.1 x.2.1,true⟩
theorem y8p:FnS Tryz.prog fa 215 s215:=z0h (E:=E215) (h3:=⟨⟨Tryz.func272,zy6⟩,trivial⟩) mixed z0g ⟨ok77,ok78,ok80,trivial⟩ Tryz.func215 (by kernel_rfl) rfl fun x y h=>⟨0,(r215 0 x.1 x.2.1).trans h⟩
noncomputable def E217:Env:={ tab:=tab }
theorem r217 (N:Nat) (a0:Int):runF N E217 Tryz.f217 [.imm false Y1] [.deep true Y15] (a0,())=zen N a0:=by kernel_rfl
noncomputable def s217:FSpec:=⟨[.imm false Y1],[.deep true Y15],fun x=>z4k x.1,true⟩
theorem y24:FnS Tryz.prog fa 217 s217:=z0h (E:=E217) mixed z0g trivial Tryz.func217 (by kernel_rfl) rfl fun x y h=>⟨0,(r217 0 x.1).trans h⟩
noncomputable def E152:Env:={ tab:=tab,live:=[(0,[0,1,12,13],[])] }
theorem r152 (N:Nat) (a0:List Int) (a1:List Int):runF N E152 Tryz.f152 [.imm false Y5,.imm false Y5] [.imm false .bool] (a0,a1,())=zdw N a0 a1:=by kernel_rfl
noncomputable def s152:FSpec:=⟨[.imm false Y5,.imm false Y5],[.imm false .bool],fun x=>z3r x.1 x.2.1,true⟩
theorem y26:FnS Tryz.prog fa 152 s152:=z0h (E:=E152) mixed z0g trivial Tryz.func152 (by kernel_rfl) rfl fun x y h=>let ⟨N,hN⟩:=z0d h; ⟨N,(r152 N x.1 x.2.1).trans hN⟩
noncomputable def E216:Env:={ tab:=tab,sig:=[(152,s152)] }
theorem r216 (N:Nat) (a0:T6) (a1:T6):runF N E216 Tryz.f216 [.imm true Y15,.imm true Y15] [.imm false .bool] (a0,a1,())=z9w N a0 a1:=by kernel_rfl
noncomputable def s216:FSpec:=⟨[.imm true Y15,.imm true Y15],[.imm false .bool],fun x=>z6r x.1 x.2.1,true⟩
theorem y8o:FnS Tryz.prog fa 216 s216:=z0h (E:=E216) mixed z0g ⟨y26,trivial⟩ Tryz.func216 (by kernel_rfl) rfl fun x y h=>⟨0,(r216 0 x.1 x.2.1).trans h⟩
noncomputable def E149:Env:={ tab:=tab,sig:=[(78,s78),(206,s206),(215,s215),(217,s217),(216,s216)],eqs:=[(137,[false,false,false,false,false])] }
theorem r149 (N:Nat) (a0:Int) (a1:T7):runF N E149 Tryz.f149 [.imm false Y1,.imm true Y43] [.imm false .bool] (a0,a1,())=zbi N a0 a1:=by kernel_rfl
noncomputable def s149:FSpec:=⟨[.imm false Y1,.imm true Y43],[.imm false .bool],fun x=>z7y x.1 x.2.1,true⟩
theorem y9d:FnS Tryz.prog fa 149 s149:=z0h (E:=E149) (h4:=⟨y0e,trivial⟩) mixed z0g ⟨ok78,y8s,y8p,y24,y8o,trivial⟩ Tryz.func149 (by kernel_rfl) rfl fun x y h=>⟨0,(r149 0 x.1 x.2.1).trans h⟩
noncomputable def E214:Env:={ tab:=tab,live:=[(0,[0,1,7,8],[])] }
theorem r214 (N:Nat) (a0:List T7) (a1:(T7×Unit)→Option Bool):runF N E214 Tryz.f214 [.imm false Y44,.clo [(true,Y43)] .bool] [.imm false Y1] (a0,a1,())=z3a N a0 a1:=by kernel_rfl
noncomputable def s214:FSpec:=⟨[.imm false Y44,.clo [(true,Y43)] .bool],[.imm false Y1],fun x=>z1y x.1 x.2.1,true⟩
theorem y8q:FnS Tryz.prog fa 214 s214:=z0h (E:=E214) mixed z0g trivial Tryz.func214 (by kernel_rfl) rfl fun x y h=>let ⟨N,hN⟩:=z0d h; ⟨N,(r214 N x.1 x.2.1).trans hN⟩
noncomputable def E147:Env:={ tab:=tab,sig:=[(214,s214)] }
theorem r147 (N:Nat) (a0:List T7) (a1:(T7×Unit)→Option Bool):runF N E147 Tryz.f147 [.imm false Y44,.clo [(true,Y43)] .bool] [.imm false .bool] (a0,a1,())=z1d N a0 a1:=by kernel_rfl
noncomputable def s147:FSpec:=⟨[.imm false Y44,.clo [(true,Y43)] .bool],[.imm false .bool],fun x=>z0s x.1 x.2.1,true⟩
theorem y9e:FnS Tryz.prog fa 147 s147:=z0h (E:=E147) mixed z0g ⟨y8q,trivial⟩ Tryz.func147 (by kernel_rfl) rfl fun x y h=>⟨0,(r147 0 x.1 x.2.1).trans h⟩
noncomputable def E213:Env:={ tab:=tab,live:=[(0,[0,1,7,8],[])] }
theorem r213 (N:Nat) (a0:List (List T7)) (a1:(List T7×Unit)→Option Bool):runF N E213 Tryz.f213 [.imm false Y47,.clo [(false,Y44)] .bool] [.imm false Y1] (a0,a1,())=z31 N a0 a1:=by kernel_rfl
noncomputable def s213:FSpec:=⟨[.imm false Y47,.clo [(false,Y44)] .bool],[.imm false Y1],fun x=>z1h x.1 x.2.1,true⟩
theorem y8r:FnS Tryz.prog fa 213 s213:=z0h (E:=E213) mixed z0g trivial Tryz.func213 (by kernel_rfl) rfl fun x y h=>let ⟨N,hN⟩:=z0d h; ⟨N,(r213 N x.1 x.2.1).trans hN⟩
noncomputable def E145:Env:={ tab:=tab,sig:=[(213,s213)] }
theorem r145 (N:Nat) (a0:List (List T7)) (a1:(List T7×Unit)→Option Bool):runF N E145 Tryz.f145 [.imm false Y47,.clo [(false,Y44)] .bool] [.imm false .bool] (a0,a1,())=z15 N a0 a1:=by kernel_rfl
noncomputable def s145:FSpec:=⟨[.imm false Y47,.clo [(false,Y44)] .bool],[.imm false .bool],fun x=>z0p x.1 x.2.1,true⟩
theorem y9f:FnS Tryz.prog fa 145 s145:=z0h (E:=E145) mixed z0g ⟨y8r,trivial⟩ Tryz.func145 (by kernel_rfl) rfl fun x y h=>⟨0,(r145 0 x.1 x.2.1).trans h⟩
theorem zyf:z1m Tryz.prog 146:=enters Tryz.func146 (by kernel_rfl) rfl
theorem zye:z1m Tryz.prog 148:=enters Tryz.func148 (by kernel_rfl) rfl
noncomputable def E69:Env:={ tab:=tab,sig:=[(77,s77),(145,s145),(147,s147),(149,s149)],clos:=[(146,⟨Tryz.f146,[(false,Y44)],[],[],[],[],[]⟩),(148,⟨Tryz.f148,[(true,Y43)],[],[],[],[],[]⟩)] }
theorem r69 (N:Nat) (a0:T8):runF N E69 Tryz.f69 [.imm true Y56] [.imm false .bool] (a0,())=z8p N a0:=by kernel_rfl
noncomputable def s69:FSpec:=⟨[.imm true Y56],[.imm false .bool],fun x=>z5m x.1,true⟩
theorem ok69:FnS Tryz.prog fa 69 s69:=z0h (E:=E69) (h3:=⟨⟨Tryz.func146,zyf⟩,⟨Tryz.func148,zye⟩,trivial⟩) mixed z0g ⟨ok77,y9f,y9e,y9d,trivial⟩ Tryz.func69 (by kernel_rfl) rfl fun x y h=>⟨0,(r69 0 x.1).trans h⟩
noncomputable def E179:Env:={ tab:=tab }
theorem r179 (N:Nat) (a0:Int):runF N E179 Tryz.f179 [.imm false Y1] [.deep true Y56] (a0,())=z9v N a0:=by kernel_rfl
noncomputable def s179:FSpec:=⟨[.imm false Y1],[.deep true Y56],fun x=>zaa x.1,true⟩
theorem y8z:FnS Tryz.prog fa 179 s179:=z0h (E:=E179) mixed z0g trivial Tryz.func179 (by kernel_rfl) rfl fun x y h=>⟨0,(r179 0 x.1).trans h⟩
theorem zya:z1m Tryz.prog 222:=enters Tryz.func222 (by kernel_rfl) rfl
theorem zy5:z1m Tryz.prog 277:=enters Tryz.func277 (by kernel_rfl) rfl
noncomputable def E231:Env:={ tab:=tab,clos:=[(222,⟨Tryz.f222,[],[(0,[1,9,10,11],[.drop 4]),(2,[1,4,9,10,11,16,17,18],[])],[],[],[],[]⟩),(277,⟨Tryz.f277,[],[],[],[],[],[]⟩)],inl:=[222,277] }
theorem r231 (N:Nat) (a0:T8):runF N E231 Tryz.f231 [.imm true Y56] [.deep false Y9] (a0,())=z3x N a0:=by kernel_rfl
noncomputable def s231:FSpec:=⟨[.imm true Y56],[.deep false Y9],fun x=>z1l x.1,true⟩
theorem y6b:FnS Tryz.prog fa 231 s231:=z0h (E:=E231) (h3:=⟨⟨Tryz.func222,zya⟩,⟨Tryz.func277,zy5⟩,trivial⟩) mixed z0g trivial Tryz.func231 (by kernel_rfl) rfl fun x y h=>let ⟨N,hN⟩:=z0d h; ⟨N,(r231 N x.1).trans hN⟩
noncomputable def E121:Env:={ tab:=tab }
theorem r121 (N:Nat) (a0:List Int):runF N E121 Tryz.f121 [.imm false Y5] [.deep false Y5] (a0,())=z8r N a0:=by kernel_rfl
noncomputable def s121:FSpec:=⟨[.imm false Y5],[.deep false Y5],fun x=>z5o x.1,true⟩
theorem y9j:FnS Tryz.prog fa 121 s121:=z0h (E:=E121) mixed z0g trivial Tryz.func121 (by kernel_rfl) rfl fun x y h=>⟨0,(r121 0 x.1).trans h⟩
noncomputable def E274:Env:={ tab:=tab,sig:=[(121,s121)] }
theorem r274 (N:Nat) (a0:T6):runF N E274 Tryz.f274 [.imm true Y15] [.deep true Y15] (a0,())=z40 N a0:=by kernel_rfl
noncomputable def s274:FSpec:=⟨[.imm true Y15],[.deep true Y15],fun x=>z47 x.1,true⟩
theorem y84:FnS Tryz.prog fa 274 s274:=z0h (E:=E274) mixed z0g ⟨y9j,trivial⟩ Tryz.func274 (by kernel_rfl) rfl fun x y h=>⟨0,(r274 0 x.1).trans h⟩
noncomputable def E224:Env:={ tab:=tab,sig:=[(274,s274)] }
theorem r224 (N:Nat) (a0:T7):runF N E224 Tryz.f224 [.imm true Y43] [.deep true Y43] (a0,())=z4r N a0:=by kernel_rfl
noncomputable def s224:FSpec:=⟨[.imm true Y43],[.deep true Y43],fun x=>z2h x.1,true⟩
theorem y6d:FnS Tryz.prog fa 224 s224:=z0h (E:=E224) mixed z0g ⟨y84,trivial⟩ Tryz.func224 (by kernel_rfl) rfl fun x y h=>⟨0,(r224 0 x.1).trans h⟩
noncomputable def E158:Env:={ tab:=tab,sig:=[(224,s224),(217,s217)] }
theorem r158 (N:Nat) (a0:T8) (a1:Int) (a2:Int):runF N E158 Tryz.f158 [.imm true Y56,.imm false Y1,.imm false Y1] [.deep true Y43] (a0,a1,a2,())=z8o N a0 a1 a2:=by kernel_rfl
noncomputable def s158:FSpec:=⟨[.imm true Y56,.imm false Y1,.imm false Y1],[.deep true Y43],fun x=>z13 x.1 x.2.1 x.2.2.1,true⟩
theorem zzw:FnS Tryz.prog fa 158 s158:=z0h (E:=E158) mixed z0g ⟨y6d,y24,trivial⟩ Tryz.func158 (by kernel_rfl) rfl fun x y h=>⟨0,(r158 0 x.1 x.2.1 x.2.2.1).trans h⟩
noncomputable def E278:Env:={ tab:=tab,live:=[(0,[3,9,10,11],[]),(2,[3,4,5,6,9,10,11],[])] }
theorem r278 (N:Nat) (a0:T6):runF N E278 Tryz.f278 [.imm true Y15] [.deep false Y9] (a0,())=zgh N a0:=by kernel_rfl
noncomputable def s278:FSpec:=⟨[.imm true Y15],[.deep false Y9],fun x=>zdq x.1,true⟩
theorem y83:FnS Tryz.prog fa 278 s278:=z0h (E:=E278) mixed z0g trivial Tryz.func278 (by kernel_rfl) rfl fun x y h=>let ⟨N,hN⟩:=z0d h; ⟨N,(r278 N x.1).trans hN⟩
noncomputable def E150:Env:={ tab:=tab,live:=[(0,[0,1,7,8],[])] }
theorem r150 (N:Nat) (a0:List (List Int)) (a1:(List Int×Unit)→Option Bool):runF N E150 Tryz.f150 [.imm false Y9,.clo [(false,Y5)] .bool] [.imm false Y1] (a0,a1,())=z6x N a0 a1:=by kernel_rfl
noncomputable def s150:FSpec:=⟨[.imm false Y9,.clo [(false,Y5)] .bool],[.imm false Y1],fun x=>z2l x.1 x.2.1,true⟩
theorem y6g:FnS Tryz.prog fa 150 s150:=z0h (E:=E150) mixed z0g trivial Tryz.func150 (by kernel_rfl) rfl fun x y h=>let ⟨N,hN⟩:=z0d h; ⟨N,(r150 N x.1 x.2.1).trans hN⟩
noncomputable def E190:Env:={ tab:=tab,sig:=[(150,s150)] }
theorem r190 (N:Nat) (a0:List (List Int)) (a1:(List Int×Unit)→Option Bool):runF N E190 Tryz.f190 [.imm false Y9,.clo [(false,Y5)] .bool] [.imm false .bool] (a0,a1,())=z2y N a0 a1:=by kernel_rfl
noncomputable def s190:FSpec:=⟨[.imm false Y9,.clo [(false,Y5)] .bool],[.imm false .bool],fun x=>z1v x.1 x.2.1,true⟩
theorem y8u:FnS Tryz.prog fa 190 s190:=z0h (E:=E190) mixed z0g ⟨y6g,trivial⟩ Tryz.func190 (by kernel_rfl) rfl fun x y h=>⟨0,(r190 0 x.1 x.2.1).trans h⟩
theorem zyc:z1m Tryz.prog 191:=enters Tryz.func191 (by kernel_rfl) rfl
noncomputable def E124:Env:={ tab:=tab,sig:=[(190,s190),(152,s152)],clos:=[(191,⟨Tryz.f191,[(false,Y5)],[],[],[],[],[]⟩)] }
theorem r124 (N:Nat) (a0:List (List Int)) (a1:List Int):runF N E124 Tryz.f124 [.imm false Y9,.imm false Y5] [.imm false .bool] (a0,a1,())=z3z N a0 a1:=by kernel_rfl
noncomputable def s124:FSpec:=⟨[.imm false Y9,.imm false Y5],[.imm false .bool],fun x=>z26 x.1 x.2.1,true⟩
theorem y9i:FnS Tryz.prog fa 124 s124:=z0h (E:=E124) (h3:=⟨⟨Tryz.func191,zyc⟩,trivial⟩) mixed z0g ⟨y8u,y26,trivial⟩ Tryz.func124 (by kernel_rfl) rfl fun x y h=>⟨0,(r124 0 x.1 x.2.1).trans h⟩
noncomputable def E253:Env:={ tab:=tab }
theorem r253 (N:Nat) (a0:Int):runF N E253 Tryz.f253 [.imm false Y1] [.imm false .bool] (a0,())=z9y N a0:=by kernel_rfl
noncomputable def s253:FSpec:=⟨[.imm false Y1],[.imm false .bool],fun x=>z6t x.1,true⟩
theorem y8b:FnS Tryz.prog fa 253 s253:=z0h (E:=E253) mixed z0g trivial Tryz.func253 (by kernel_rfl) rfl fun x y h=>⟨0,(r253 0 x.1).trans h⟩
noncomputable def E186:Env:={ tab:=tab,sig:=[(253,s253)] }
theorem r186 (N:Nat) (a0:Int) (a1:Int):runF N E186 Tryz.f186 [.imm false Y1,.imm false Y1] [.imm false Y1] (a0,a1,())=z79 N a0 a1:=by kernel_rfl
noncomputable def s186:FSpec:=⟨[.imm false Y1,.imm false Y1],[.imm false Y1],fun x=>z4w x.1 x.2.1,true⟩
theorem y8v:FnS Tryz.prog fa 186 s186:=z0h (E:=E186) mixed z0g ⟨y8b,trivial⟩ Tryz.func186 (by kernel_rfl) rfl fun x y h=>⟨0,(r186 0 x.1 x.2.1).trans h⟩
noncomputable def E111:Env:={ tab:=tab,sig:=[(186,s186)],live:=[(0,[0,1,9,10,11],[])] }
theorem r111 (N:Nat) (a0:List Int) (a1:List Int):runF N E111 Tryz.f111 [.imm false Y5,.imm false Y5] [.imm false Y1] (a0,a1,())=z6a N a0 a1:=by kernel_rfl
noncomputable def s111:FSpec:=⟨[.imm false Y5,.imm false Y5],[.imm false Y1],fun x=>z27 x.1 x.2.1,true⟩
theorem y6h:FnS Tryz.prog fa 111 s111:=z0h (E:=E111) mixed z0g ⟨y8v,trivial⟩ Tryz.func111 (by kernel_rfl) rfl fun x y h=>let ⟨N,hN⟩:=z0d h; ⟨N,(r111 N x.1 x.2.1).trans hN⟩
theorem zy4:z1m Tryz.prog 279:=enters Tryz.func279 (by kernel_rfl) rfl
noncomputable def E233:Env:={ tab:=tab,sig:=[(158,s158),(278,s278),(124,s124),(111,s111)],clos:=[(279,⟨Tryz.f279,[(false,Y5),(false,Y5)],[],[],[],[],[]⟩)],live:=[(0,[2,5,6,7],[.loose 3 []]),(2,[2,5,6,7,33,34,35],[.loose 2 [6],.loose 4 [6],.loose 3 [6]])],rfn:=[(109,⟨.sort,25,1,false⟩)],rsl:=[19] }
theorem r233 (N:Nat) (a0:T8) (a1:List Int):runF N E233 Tryz.f233 [.imm true Y56,.imm false Y5] [.imm false Y9] (a0,a1,())=z4b N a0 a1:=by kernel_rfl
noncomputable def s233:FSpec:=⟨[.imm true Y56,.imm false Y5],[.imm false Y9],fun x=>z2v x.1 x.2.1,true⟩
theorem y8h:FnS Tryz.prog fa 233 s233:=z0h (E:=E233) (h3:=⟨⟨Tryz.func279,zy4⟩,trivial⟩) (h5:=⟨y0s,trivial⟩) mixed z0g ⟨zzw,y83,y9i,y6h,trivial⟩ Tryz.func233 (by kernel_rfl) rfl fun x y h=>let ⟨N,hN⟩:=z0d h; ⟨N,(r233 N x.1 x.2.1).trans hN⟩
theorem zy9:z1m Tryz.prog 232:=enters Tryz.func232 (by kernel_rfl) rfl
noncomputable def E171:Env:={ tab:=tab,sig:=[(231,s231),(233,s233)],clos:=[(232,⟨Tryz.f232,[(false,Y5)],[],[],[],[],[]⟩)],rfn:=[(122,⟨.filter,25,1,false⟩)] }
theorem r171 (N:Nat) (a0:T8):runF N E171 Tryz.f171 [.imm true Y56] [.deep false Y9] (a0,())=z67 N a0:=by kernel_rfl
noncomputable def s171:FSpec:=⟨[.imm true Y56],[.deep false Y9],fun x=>z42 x.1,true⟩
theorem y95:FnS Tryz.prog fa 171 s171:=z0h (E:=E171) (h3:=⟨⟨Tryz.func232,zy9⟩,trivial⟩) (h5:=⟨y5r,trivial⟩) mixed z0g ⟨y6b,y8h,trivial⟩ Tryz.func171 (by kernel_rfl) rfl fun x y h=>⟨0,(r171 0 x.1).trans h⟩
noncomputable def E181:Env:={ tab:=tab,sig:=[(231,s231),(158,s158),(152,s152)],live:=[(0,[1,4,5,15,16,17,43,44,45,46,47,48,49,50,51,52,53],[]),(2,[1,4,5,7,8,9,15,16,17,31,32,33,43,44,45,46,47,48,49,50,51,52,53],[.look (.r 7)])],res:=true }
theorem r181 (N:Nat) (a0:T8):runF N E181 Tryz.f181 [.imm true Y56] [.deep false Y9,.deep false Y9] (a0,())=z69 N a0:=by kernel_rfl
noncomputable def s181:FSpec:=⟨[.imm true Y56],[.deep false Y9,.deep false Y9],fun x=>z44 x.1,true⟩
theorem y8y:FnS Tryz.prog fa 181 s181:=z0h (E:=E181) mixed z0g ⟨y6b,zzw,y26,trivial⟩ Tryz.func181 (by kernel_rfl) rfl fun x y h=>let ⟨N,hN⟩:=z0d h; ⟨N,(r181 N x.1).trans hN⟩
noncomputable def E281:Env:={ tab:=tab,live:=[(0,[0,5,6],[]),(2,[0,5,6,30,31,32],[]),(4,[9,50,51,52],[])],rsl:=[24] }
theorem r281 (N:Nat) (a0:List (List Int)) (a1:Int):runF N E281 Tryz.f281 [.imm false Y9,.imm false Y1] [.deep false Y5] (a0,a1,())=zbh N a0 a1:=by kernel_rfl
noncomputable def s281:FSpec:=⟨[.imm false Y9,.imm false Y1],[.deep false Y5],fun x=>z7x x.1 x.2.1,true⟩
theorem y81:FnS Tryz.prog fa 281 s281:=z0h (E:=E281) mixed z0g trivial Tryz.func281 (by kernel_rfl) rfl fun x y h=>let ⟨N,hN⟩:=z0d h; ⟨N,(r281 N x.1 x.2.1).trans hN⟩
noncomputable def E300:Env:={ tab:=tab,live:=[(0,[0,1,7,8],[])] }
theorem r300 (N:Nat) (a0:List Int) (a1:Int):runF N E300 Tryz.f300 [.imm false Y5,.imm false Y1] [.imm false Y1] (a0,a1,())=z8q N a0 a1:=by kernel_rfl
noncomputable def s300:FSpec:=⟨[.imm false Y5,.imm false Y1],[.imm false Y1],fun x=>z5n x.1 x.2.1,true⟩
theorem y7x:FnS Tryz.prog fa 300 s300:=z0h (E:=E300) mixed z0g trivial Tryz.func300 (by kernel_rfl) rfl fun x y h=>let ⟨N,hN⟩:=z0d h; ⟨N,(r300 N x.1 x.2.1).trans hN⟩
noncomputable def E282:Env:={ tab:=tab,sig:=[(300,s300)] }
theorem r282 (N:Nat) (a0:List Int) (a1:Int):runF N E282 Tryz.f282 [.imm false Y5,.imm false Y1] [.imm false .bool] (a0,a1,())=z5q N a0 a1:=by kernel_rfl
noncomputable def s282:FSpec:=⟨[.imm false Y5,.imm false Y1],[.imm false .bool],fun x=>z1r x.1 x.2.1,true⟩
theorem y80:FnS Tryz.prog fa 282 s282:=z0h (E:=E282) mixed z0g ⟨y7x,trivial⟩ Tryz.func282 (by kernel_rfl) rfl fun x y h=>⟨0,(r282 0 x.1 x.2.1).trans h⟩
theorem zy3:z1m Tryz.prog 283:=enters Tryz.func283 (by kernel_rfl) rfl
theorem zy2:z1m Tryz.prog 284:=enters Tryz.func284 (by kernel_rfl) rfl
noncomputable def E240:Env:={ tab:=tab,sig:=[(281,s281),(282,s282),(150,s150),(80,s80)],clos:=[(283,⟨Tryz.f283,[(false,Y5)],[],[],[],[],[]⟩),(284,⟨Tryz.f284,[(false,Y1)],[],[],[],[],[]⟩)],live:=[(0,[0,3,16,17,49,50,51,52,53,54],[]),(2,[0,3,5,6,32,33,49,50,51,52,53,54],[]),(4,[0,3,5,6,7,8,32,33,38,39,49,50,51,52,53,54],[]),(6,[3,5,6,10],[]),(8,[3,5,6,10,11,81,82,83],[.look (.r 81)])],res:=true,rfn:=[(285,⟨.cut,25,1,false⟩)],hol:=[96] }
theorem r240 (N:Nat) (a0:List (List Int)):runF N E240 Tryz.f240 [.imm false Y9] [.deep false Y9] (a0,())=z78 N a0:=by kernel_rfl
noncomputable def s240:FSpec:=⟨[.imm false Y9],[.deep false Y9],fun x=>z4v x.1,true⟩
theorem y8c:FnS Tryz.prog fa 240 s240:=z0h (E:=E240) (h3:=⟨⟨Tryz.func283,zy3⟩,⟨Tryz.func284,zy2⟩,trivial⟩) (h5:=⟨y5p,trivial⟩) mixed z0g ⟨y81,y80,y6g,ok80,trivial⟩ Tryz.func240 (by kernel_rfl) rfl fun x y h=>let ⟨N,hN⟩:=z0d h; ⟨N,(r240 N x.1).trans hN⟩
theorem zy8:z1m Tryz.prog 242:=enters Tryz.func242 (by kernel_rfl) rfl
noncomputable def E182:Env:={ tab:=tab,sig:=[(240,s240)],clos:=[(242,⟨Tryz.f242,[(false,Y1),(false,Y1)],[],[],[],[],[]⟩)],live:=[(0,[3,5,10,11,12],[])],rfn:=[(241,⟨.sort,3,1,false⟩)] }
theorem r182 (N:Nat) (a0:List (List Int)) (a1:List Int):runF N E182 Tryz.f182 [.imm false Y9,.imm false Y5] [.deep false Y5] (a0,a1,())=zem N a0 a1:=by kernel_rfl
noncomputable def s182:FSpec:=⟨[.imm false Y9,.imm false Y5],[.deep false Y5],fun x=>zau x.1 x.2.1,true⟩
theorem y8x:FnS Tryz.prog fa 182 s182:=z0h (E:=E182) (h3:=⟨⟨Tryz.func242,zy8⟩,trivial⟩) (h5:=⟨y5q,trivial⟩) mixed z0g ⟨y8c,trivial⟩ Tryz.func182 (by kernel_rfl) rfl fun x y h=>let ⟨N,hN⟩:=z0d h; ⟨N,(r182 N x.1 x.2.1).trans hN⟩
end Go.Proofs.YtdcbankajhnepaaGreat.Am
