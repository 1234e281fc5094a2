/- Parts of the proof, in build order. No condition. -/
import Derived.Test.YtfkcmbonmpcbfaaGreatRa19
import Derived.Test.YtfkcmbonmpcbfaaGreatRa14
import Derived.Test.YtfkcmbonmpcbfaaGreatRa06
import Derived.Test.YtfkcmbonmpcbfaaGreatRa05
import Derived.Test.YtfkcmbonmpcbfaaGreatRa09
set_option linter.unusedSimpArgs false
set_option linter.unusedVariables false
set_option maxHeartbeats 1000000
set_option maxRecDepth 20000
namespace Go.Proofs.YtfkcmbonmpcbfaaGreat
open Go.RowKit Go.Lp Go.Sy Go.Lv
open Go.Proofs.Tryz
attribute [local irreducible] aL aB awp aC fwp Quiet
def gw (v0 v1 v2 v3 v4:Nat):Code:=(.seq (.seq (.region 0 #[⟨(.some 10),(.move (.tmp 0)),164, "image.go:55", #[],none⟩,⟨(.some 11),(.nilCheck (.tmp 10)),0, "image.go:55", #[⟨0,Go.Ground.data⟩],none⟩,⟨(.some 12),(.fieldAddr 93 (.tmp 11) 1),0, "image.go:55", #[⟨1,Go.Ground.data⟩],none⟩,⟨(.some 13),(.load 86 (.tmp 12)),86, "image.go:55", #[⟨2,Go.Ground.data⟩],none⟩,⟨(.some 14),(.binOp Go.BinOp.eql 86 (.tmp 13) (.const (Go.Value.pointer none)) 86),4, "image.go:55", #[⟨3,Go.Ground.data⟩],none⟩] false) (.cond (.tmp 14) (.seq (.region 1 #[⟨(.some 15),(.move (.tmp 0)),164, "image.go:56", #[],none⟩,⟨(.some 16),(.nilCheck (.tmp 15)),0, "image.go:56", #[⟨0,Go.Ground.data⟩],none⟩,⟨(.some 17),(.fieldAddr 93 (.tmp 16) 0),0, "image.go:56", #[⟨1,Go.Ground.data⟩],none⟩,⟨(.some 18),(.move (.tmp 1)),v0, "image.go:56", #[],none⟩,⟨(.some 19),(.nilCheck (.tmp 18)),0, "image.go:56", #[⟨3,Go.Ground.data⟩],none⟩,⟨(.some 20),(.load v1 (.tmp 19)),v1, "image.go:56", #[⟨4,Go.Ground.data⟩],none⟩,⟨(.some 21),(.call ⟨(Go.Callee.builtin Go.Builtin.len),#[(.tmp 20)],#[v1]⟩),3, "image.go:56", #[⟨5,Go.Ground.data⟩],none⟩,⟨(.some 22),(.call ⟨(Go.Callee.value (.func 219)),#[(.tmp 21)],#[3]⟩),9, "image.go:56", #[⟨6,Go.Ground.data⟩],none⟩,⟨(.some 23),(.call ⟨(Go.Callee.value (.func 213)),#[(.tmp 17),(.tmp 22)],#[91,9]⟩),311, "image.go:56", #[⟨2,Go.Ground.data⟩,⟨7,Go.Ground.data⟩,⟨7,Go.Ground.chain⟩],none⟩] true) (.seq (.seq (.region 2 #[⟨(.some 24),(.move (.tmp 1)),v0, "image.go:57", #[],none⟩,⟨(.some 25),(.nilCheck (.tmp 24)),0, "image.go:57", #[⟨0,Go.Ground.data⟩],none⟩,⟨(.some 26),(.load v1 (.tmp 25)),v1, "image.go:57", #[⟨1,Go.Ground.data⟩],none⟩,⟨(.some 27),(.call ⟨(Go.Callee.builtin Go.Builtin.len),#[(.tmp 26)],#[v1]⟩),3, "image.go:57", #[⟨2,Go.Ground.data⟩],none⟩,⟨(.some 28),(.move (.const (Go.Value.int Go.IntKind.i64 0))),3, "image.go:57", #[],none⟩] false) (.block 0 (.loop (.seq (.region 3 #[⟨(.some 29),(.binOp Go.BinOp.lss 3 (.tmp 28) (.tmp 27) 3),0, "image.go:57", #[],none⟩] false) (.seq (.cond (.tmp 29) Go.Code.skip (.exit 0)) (.seq (.block 1 (.seq (.region 4 #[⟨(.some 30),(.move (.tmp 28)),3, "image.go:57", #[],none⟩,⟨(.some 6),(.assign (.tmp 30)),3, "image.go:57", #[⟨0,Go.Ground.data⟩,⟨0,Go.Ground.phase⟩],none⟩] false) (.seq (.region 5 #[⟨(.some 31),(.move (.tmp 1)),v0, "image.go:58", #[],none⟩,⟨(.some 32),(.nilCheck (.tmp 31)),0, "image.go:58", #[⟨0,Go.Ground.data⟩],none⟩,⟨(.some 33),(.load v1 (.tmp 32)),v1, "image.go:58", #[⟨1,Go.Ground.data⟩],none⟩,⟨(.some 34),(.move (.tmp 6)),3, "image.go:58", #[],none⟩,⟨(.some 35),(.indexAddr v1 (.tmp 33) (.tmp 34)),0, "image.go:58", #[⟨2,Go.Ground.data⟩,⟨3,Go.Ground.data⟩],none⟩,⟨(.some 36),(.load v2 (.tmp 35)),v2, "image.go:58", #[⟨4,Go.Ground.data⟩],none⟩,⟨(.some 7),(.alloc v2),0, "image.go:58", #[],none⟩,⟨none,(.store v2 (.tmp 7) (.tmp 36)),0, "image.go:58", #[⟨6,Go.Ground.data⟩,⟨5,Go.Ground.data⟩,⟨0,Go.Ground.phase⟩,⟨1,Go.Ground.phase⟩,⟨2,Go.Ground.phase⟩,⟨3,Go.Ground.phase⟩,⟨4,Go.Ground.phase⟩,⟨5,Go.Ground.phase⟩,⟨6,Go.Ground.phase⟩],none⟩] false) (.region 6 #[⟨(.some 37),(.move (.tmp 2)),v3, "image.go:59", #[],none⟩,⟨(.some 38),(.call ⟨(Go.Callee.value (.tmp 37)),#[(.tmp 7)],#[v4]⟩),0, "image.go:59", #[⟨0,Go.Ground.data⟩],none⟩] false)))) (.region 7 #[⟨(.some 39),(.binOp Go.BinOp.add 3 (.tmp 28) (.const (Go.Value.int Go.IntKind.i64 1)) 3),3, "image.go:57", #[],none⟩,⟨(.some 28),(.move (.tmp 39)),3, "image.go:57", #[⟨0,Go.Ground.data⟩],none⟩] false))))))) Go.Code.ret)) Go.Code.skip)) (.seq (.region 8 #[⟨(.some 40),(.move (.tmp 0)),164, "image.go:63", #[],none⟩,⟨(.some 41),(.nilCheck (.tmp 40)),0, "image.go:63", #[⟨0,Go.Ground.data⟩],none⟩,⟨(.some 42),(.fieldAddr 93 (.tmp 41) 1),0, "image.go:63", #[⟨1,Go.Ground.data⟩],none⟩,⟨(.some 43),(.load 86 (.tmp 42)),86, "image.go:63", #[⟨2,Go.Ground.data⟩],none⟩,⟨(.some 44),(.call ⟨(Go.Callee.value (.func 220)),#[(.tmp 43)],#[86]⟩),3, "image.go:63", #[⟨3,Go.Ground.data⟩],none⟩,⟨(.some 8),(.assign (.tmp 44)),3, "image.go:63", #[⟨4,Go.Ground.data⟩,⟨4,Go.Ground.chain⟩,⟨0,Go.Ground.phase⟩,⟨1,Go.Ground.phase⟩,⟨2,Go.Ground.phase⟩,⟨3,Go.Ground.phase⟩,⟨4,Go.Ground.phase⟩],none⟩] false) (.block 2 (.loop (.seq (.seq (.region 9 #[⟨(.some 45),(.move (.tmp 8)),3, "image.go:63", #[],none⟩,⟨(.some 46),(.binOp Go.BinOp.gtr 3 (.tmp 45) (.const (Go.Value.int Go.IntKind.i64 0)) 3),4, "image.go:63", #[⟨0,Go.Ground.data⟩],none⟩,⟨(.some 47),(.move (.tmp 46)),4, "image.go:63", #[⟨1,Go.Ground.data⟩],none⟩,⟨(.some 48),(.move (.tmp 0)),164, "image.go:63", #[⟨2,Go.Ground.guard⟩],(.some (2,true))⟩,⟨(.some 49),(.call ⟨(Go.Callee.value (.func 221)),#[(.tmp 48)],#[164]⟩),4, "image.go:63", #[⟨3,Go.Ground.data⟩,⟨2,Go.Ground.chain⟩,⟨2,Go.Ground.guard⟩],(.some (2,true))⟩,⟨(.some 50),(.unOp Go.UnOp.not 4 (.tmp 49)),4, "image.go:63", #[⟨4,Go.Ground.data⟩,⟨2,Go.Ground.guard⟩],(.some (2,true))⟩,⟨(.some 51),(.pick (.tmp 47) (.tmp 50) (.const (Go.Value.bool false))),4, "image.go:63", #[⟨2,Go.Ground.data⟩,⟨5,Go.Ground.data⟩],none⟩] false) (.cond (.tmp 51) Go.Code.skip (.exit 2))) (.seq (.block 3 (.seq (.region 11 #[⟨(.some 9),(.alloc v2),0, "image.go:64", #[],none⟩] false) (.seq (.region 12 #[⟨(.some 54),(.move (.tmp 2)),v3, "image.go:65", #[],none⟩,⟨(.some 55),(.call ⟨(Go.Callee.value (.tmp 54)),#[(.tmp 9)],#[v4]⟩),0, "image.go:65", #[⟨0,Go.Ground.data⟩],none⟩] false) (.region 13 #[⟨(.some 56),(.move (.tmp 1)),v0, "image.go:66", #[],none⟩,⟨(.some 57),(.move (.tmp 1)),v0, "image.go:66", #[],none⟩,⟨(.some 58),(.nilCheck (.tmp 57)),0, "image.go:66", #[⟨1,Go.Ground.data⟩],none⟩,⟨(.some 59),(.load v1 (.tmp 58)),v1, "image.go:66", #[⟨2,Go.Ground.data⟩],none⟩,⟨(.some 60),(.load v2 (.tmp 9)),v2, "image.go:66", #[],none⟩,⟨(.some 61),(.buildSlice v1 1 #[(0,(.tmp 60))]),v1, "image.go:66", #[⟨4,Go.Ground.data⟩],none⟩,⟨(.some 62),(.call ⟨(Go.Callee.builtin Go.Builtin.append),#[(.tmp 59),(.tmp 61)],#[v1,v1]⟩),v1, "image.go:66", #[⟨3,Go.Ground.data⟩,⟨5,Go.Ground.data⟩],none⟩,⟨(.some 63),(.nilCheck (.tmp 56)),0, "image.go:66", #[⟨0,Go.Ground.data⟩,⟨0,Go.Ground.phase⟩,⟨1,Go.Ground.phase⟩,⟨2,Go.Ground.phase⟩,⟨3,Go.Ground.phase⟩,⟨4,Go.Ground.phase⟩,⟨5,Go.Ground.phase⟩,⟨6,Go.Ground.phase⟩],none⟩,⟨none,(.store v1 (.tmp 63) (.tmp 62)),0, "image.go:66", #[⟨7,Go.Ground.data⟩,⟨6,Go.Ground.data⟩,⟨6,Go.Ground.chain⟩,⟨0,Go.Ground.phase⟩,⟨1,Go.Ground.phase⟩,⟨2,Go.Ground.phase⟩,⟨3,Go.Ground.phase⟩,⟨4,Go.Ground.phase⟩,⟨5,Go.Ground.phase⟩,⟨6,Go.Ground.phase⟩],none⟩] true)))) (.region 10 #[⟨(.some 52),(.move (.tmp 8)),3, "image.go:63", #[],none⟩,⟨(.some 53),(.binOp Go.BinOp.sub 3 (.tmp 52) (.const (Go.Value.int Go.IntKind.i64 1)) 3),3, "image.go:63", #[⟨0,Go.Ground.data⟩],none⟩,⟨(.some 8),(.assign (.tmp 53)),3, "image.go:63", #[⟨1,Go.Ground.data⟩,⟨0,Go.Ground.phase⟩,⟨1,Go.Ground.phase⟩],none⟩] false)))))))
theorem bX{F0 v0 v1 v2 v3 v4:Nat}{α:Type}(X:ElT Tryz.prog v2 v1 α)(hF:isF Tryz.prog F0 (gw v0 v1 v2 v3 v4) 64 #[])(b bt:Nat)(T:TypeId)(cs:List Value)(o:Nat)(l:Sl α)(hco:cs[o]? = some l.val)(p v:Value)(hp:p=.pointer none∨p=.pointer (some ⟨b,0,none⟩))(out:List UInt8)(e:α→List UInt8)(hl:(out++(aV l.l.length++aP e l.l)).length≤1000000000)
   (F:FuncId) (caps:List Value) (pF:Per) (hFc:dV Tryz.prog F=true)
   (h:∀ (x:α) (p v:Value) (out:List UInt8) (bx:Nat),x∈l.l→(p=.pointer none∨p=.pointer (some ⟨b,0,none⟩))→(out++e x).length≤1000000000→Con Tryz.prog F (.pointer (some ⟨bx,0,none⟩)::caps) [pF] [bR b p v (.pointer none),aO v 5 1 (out.map du),Box bx v2 (X.vs x)]
     fun _ ps hp'=>ps=[]∧∃ p' v',(p'=.pointer none∨p'=.pointer (some ⟨b,0,none⟩))∧hp'=[bR b p' v' (.pointer none),aO v' 5 1 ((out++e x).map du),Box bx v2 (X.vs x)]) :
   Con Tryz.prog F0 [.pointer (some ⟨b,0,none⟩),.pointer (some ⟨bt,o,none⟩),.func (.func F) #[] caps.toArray] [ShF X.row l,pF] [bR b p v (.pointer none),aO v 5 1 (out.map du),Box bt T cs]
     fun _ ps hp'=>ps=[]∧∃ p' v',(p'=.pointer none∨p'=.pointer (some ⟨b,0,none⟩))∧hp'=[bR b p' v' (.pointer none),aO v' 5 1 ((out++(aV l.l.length++aP e l.l)).map du),Box bt T cs]:=by
 have hol:=(List.getElem?_eq_some_iff.1 hco).1
 have tk_v1:=X.tA
 have tk_v2:=X.tE
 have un_v1:=X.uA
 rw [List.length_append,List.length_append] at hl
 obtain ⟨fn,hf,hb,hn,hr⟩:=hF
 refine Con.enterG hf hb hn (by simp) ?_
 unfold gw
 show awp _ _ _ _ ⟨[(0,true,_),(1,true,_),(2,true,_)],_,_⟩
 refine bY (.of (aI 0 rfl)) (fun hlen=>(ah (aSR (aM rfl (UN rfl rfl (UO 2 rfl rfl (UL 0 tk86 rfl rfl rfl rfl (aU rfl (kC (by kernel_rfl) rfl) (aNn ?_)))))))))
 refine ao _ rfl (fun h1 => ?_) (fun h1 => ?_)
 ·skip
  refine ah (DR [8] 9 (VM 0 rfl rfl (VN 1 rfl rfl rfl (VO 2 0 rfl rfl rfl (VM 3 rfl rfl (VN 4 rfl rfl rfl (bV 5 rfl rfl (bJ 2 tk_v1 rfl rfl hco) (bV 6 rfl rfl (aZ un_v1 rfl) (bV 7 rfl rfl (Q0 rfl ((uV l.l.length hlen).post (fun _ _ _ h=>h.2.2))) (VE 8 rfl rfl (EC [] [0,1] rfl (mU b p hp v (.pointer none) out (aV l.l.length) (oR _) (by omega)) ?_)))))))))))
  rintro _ _ _ ⟨rfl,ad2,c2,rfl⟩
  refine bST rfl ?_
  refine BN (aj (ah (aSR (aM rfl (UN rfl rfl (aU rfl (bJ 2 tk_v1 rfl rfl hco) (aU rfl (aZ un_v1 rfl) (aM rfl (aNn (aq ?_))))))))))
  refine aQ [0,1,2,27,28] [1,0] [0,1,2] (fun (q:Nat × Value × Value) st=>(q.1≤l.l.length∧(q.2.1=.pointer none∨q.2.1=.pointer (some ⟨b,0,none⟩)))∧st=⟨[(0,true,.pointer (some ⟨b,0,none⟩)),(1,true,.pointer (some ⟨bt,o,none⟩)),(2,true,.func (.func F) #[] caps.toArray),(27,true,.int .i64 l.l.length),(28,true,.int .i64 q.1)],[ShF X.row l,pF],[bR b q.2.1 q.2.2 (.pointer none),aO q.2.2 5 1 ((out++(aV l.l.length++aP e (l.l.take q.1))).map du),Box bt T cs]⟩) (fun q=>l.l.length-q.1) rfl (⟨(0,_,_),⟨Nat.zero_le _,.inr rfl⟩,by dsimp only;rw [List.take_zero];show _=(⟨_,_,[_,aO _ _ 1 ((out++(aV l.l.length++[])).map du),_]⟩:Sta);rw [List.append_nil];rfl⟩) ?_
  rintro ⟨k,p1,v1⟩ st ⟨⟨hk,hp1⟩,rfl⟩
  dsimp only at hk hp1 ⊢
  refine aSR (aU rfl (bu rfl rfl) (aNs ?_))
  refine ao _ rfl (fun h2 => ?_) (fun h2 => ?_)
  ·skip
   have hk':k<l.l.length:=by simpa using h2
   obtain ⟨x,hx⟩:∃ x,l.l[k]? = some x:=⟨_,List.getElem?_eq_getElem hk'⟩
   have hen:=eQ (e:=e) hx
   have hst:out++(aV l.l.length++aP e (l.l.take (k+1)))=(out++(aV l.l.length++aP e (l.l.take k)))++e x:=by rw [hen];simp only [List.append_assoc]
   have hle:=iu (e:=e) l.l (k+1)
   rw [hen,List.length_append] at hle
   refine ar (aj (ah (aq (aSR (aM rfl (aA rfl (aNn (aSR (aM rfl (UN rfl rfl (aU rfl (bJ 2 tk_v1 rfl rfl hco) (aM rfl (iJ true rfl rfl (fun _=>bI un_v1 tk_v2 rfl ((.of (aI 0 rfl))) rfl (aK hx) rfl ((X.rl x))) (fun h=>absurd h (by decide)) (fun ⟨b5_4,o5_4⟩=>(aU rfl (gz (o:=0) tk_v2 rfl (aI 0 rfl) rfl (X.ldD x)) ?_)))))))))))))))
   refine LT rfl (bk (zs:=X.zs) X.hz rfl (fun b5_6=>(aHN ?_)))
   refine aD rfl (aF 3 tk_v2 rfl rfl rfl (X.put x) (aHK ?_))
   refine aNn (aa (aM rfl ?_))
   refine LF rfl (fK [0] [0,1,3] hFc rfl rfl rfl rfl rfl (h x p1 v1 (out++(aV l.l.length++aP e (l.l.take k))) b5_6 (List.mem_of_getElem? hx) hp1 (by rw [List.length_append,List.length_append,List.length_append];omega)) ?_)
   rintro _ _ _ ⟨rfl,p2,v2,hp2,rfl⟩
   refine aST ?_
   refine bj (bp (aj (aa (aU rfl (aX rfl rfl (by omega)) (aM rfl (aNn ?_))))))
   refine ⟨[0,1,2,27,28],[1,0],[0,1,2],rfl,?_⟩
   exact ⟨(k+1,p2,v2),⟨⟨hk',hp2⟩,by dsimp only;rw [hst];rfl⟩,by dsimp only;omega⟩
  ·skip
   have hke:k=l.l.length:=by simp at h2;omega
   subst hke
   refine aT (aW (aW (aY (aj (ax (bB ?_))))))
   refine th [] [0,1,2] rfl hr ?_ (.inr rfl)
   exact ⟨rfl,p1,v1,hp1,by rw [List.take_length];rfl⟩
 ·skip
  exact absurd h1 (by decide)
abbrev td:ElT Tryz.prog 3 26 Int:=⟨false,1,[.int .i64 0],fun z=>[.int .i64 z],fun z=>[.v (.int .i64 z)],fun z=>.int .i64 z,tk3,tk26,Tryz.underlying26,el26,by kernel_rfl,by decide,by decide,rfl,fun _=>rfl,fun _=>rfl,fun _=>rfl,fun _=>rfl,fun _=>rfl,fun _=>rfl⟩
abbrev k9:ElT Tryz.prog 9 28 ByteArray:=⟨false,1,[.string .empty],fun z=>[.string z],fun z=>[.v (.string z)],fun z=>.string z,tk9,tk28,Tryz.underlying28,el28,by kernel_rfl,by decide,by decide,rfl,fun _=>rfl,fun _=>rfl,fun _=>rfl,fun _=>rfl,fun _=>rfl,fun _=>rfl⟩
theorem lg:isF Tryz.prog 112 (gw 186 26 3 167 165) 64 #[]:=⟨_,Tryz.func112,rfl,Tryz.ntmps112,Tryz.results112⟩
theorem gS:type_of% (bX td lg):=bX td lg
theorem iB:isF Tryz.prog 115 (gw 192 28 9 170 168) 64 #[]:=⟨_,Tryz.func115,rfl,Tryz.ntmps115,Tryz.results115⟩
theorem jw:type_of% (bX k9 iB):=bX k9 iB
theorem iA:isF Tryz.prog 106 (gw 174 23 153 176 175) 64 #[]:=⟨_,Tryz.func106,rfl,Tryz.ntmps106,Tryz.results106⟩
theorem ng:type_of% (bX iG iA):=bX iG iA
theorem ix:isF Tryz.prog 108 (gw 178 24 159 180 179) 64 #[]:=⟨_,Tryz.func108,rfl,Tryz.ntmps108,Tryz.results108⟩
theorem nb:type_of% (bX iE ix):=bX iE ix
theorem iy:isF Tryz.prog 110 (gw 182 25 155 184 183) 64 #[]:=⟨_,Tryz.func110,rfl,Tryz.ntmps110,Tryz.results110⟩
theorem nc:type_of% (bX iF iy):=bX iF iy
theorem lf:isF Tryz.prog 113 (gw 188 27 157 190 189) 64 #[]:=⟨_,Tryz.func113,rfl,Tryz.ntmps113,Tryz.results113⟩
theorem rj:type_of% (bX tc lf):=bX tc lf
theorem fL:isF Tryz.prog 116 (gw 196 29 195 198 197) 64 #[]:=⟨_,Tryz.func116,rfl,Tryz.ntmps116,Tryz.results116⟩
theorem ko:type_of% (bX gU fL):=bX gU fL
theorem j1:isF Tryz.prog 119 (gw 205 38 204 213 206) 64 #[]:=⟨_,Tryz.func119,rfl,Tryz.ntmps119,Tryz.results119⟩
theorem pT:type_of% (bX kX j1):=bX kX j1
theorem je:isF Tryz.prog 121 (gw 210 202 209 212 211) 64 #[]:=⟨_,Tryz.func121,rfl,Tryz.ntmps121,Tryz.results121⟩
theorem oB:type_of% (bX jC je):=bX jC je
theorem j3:isF Tryz.prog 222 (gw 316 30 218 318 317) 64 #[]:=⟨_,Tryz.func222,rfl,Tryz.ntmps222,Tryz.results222⟩
theorem pW:type_of% (bX k7 j3):=bX k7 j3
theorem j2:isF Tryz.prog 224 (gw 320 31 220 322 321) 64 #[]:=⟨_,Tryz.func224,rfl,Tryz.ntmps224,Tryz.results224⟩
theorem pU:type_of% (bX kY j2):=bX kY j2
theorem j4:isF Tryz.prog 226 (gw 324 32 222 326 325) 64 #[]:=⟨_,Tryz.func226,rfl,Tryz.ntmps226,Tryz.results226⟩
theorem pX:type_of% (bX jc j4):=bX jc j4
theorem iz:isF Tryz.prog 228 (gw 328 33 262 330 329) 64 #[]:=⟨_,Tryz.func228,rfl,Tryz.ntmps228,Tryz.results228⟩
theorem nf:type_of% (bX gg iz):=bX gg iz
theorem lj:isF Tryz.prog 230 (gw 332 34 268 334 333) 64 #[]:=⟨_,Tryz.func230,rfl,Tryz.ntmps230,Tryz.results230⟩
theorem rk:type_of% (bX kr lj):=bX kr lj
theorem jd:isF Tryz.prog 232 (gw 336 35 274 338 337) 64 #[]:=⟨_,Tryz.func232,rfl,Tryz.ntmps232,Tryz.results232⟩
theorem oA:type_of% (bX gY jd):=bX gY jd
end Go.Proofs.YtfkcmbonmpcbfaaGreat

namespace Go.Sy
open Go.RowKit Go.Lp
theorem yE{P:Program}{n:Fr}{ops:Array Oper}{Q:Exit→Sta→Prop}{env:Env}{ps:List Per}{hp:List Res}{ty:TypeId}{pos:String}{af:Array Edge}{gd:Option (Nat × Bool)}{rest:List Oper}{t:Nat}{f:FuncId}{g:Operand}{caps:List Value}{l:List Operand}{ts:Array TypeId}{vs:List Value}{v:Value}(lp lh:List Nat)(hf:dV P f=true)(c:Bool)(hc:guardOf ops env ⟨some t,.call ⟨.value g,l.toArray,ts⟩,ty,pos,af,gd⟩=some c)(ht:fits n.size (some t)=true)(hi:okH hp lh=true)
   (hgv:c=true→ev env g=some (true,.func (.func f) #[] caps.toArray)) (hx:c=true→evs env l=some vs) (hcon:c=true→Con P f (vs++caps) (fD ps lp) (cO hp lh) fun r ps' hp'=>ps'=[]∧hp'=cO hp lh∧r=v)
   (h:aL P n ops Q rest ⟨(t,c,v)::env,ps,hp⟩):aL P n ops Q (⟨some t,.call ⟨.value g,l.toArray,ts⟩,ty,pos,af,gd⟩::rest) ⟨env,ps,hp⟩:=by
 cases c with
 | true =>
   refine aD (q:=false) hc (fK lp lh hf (hgv rfl) (hx rfl) ht hi rfl (hcon rfl) ?_)
   rintro _ _ _ ⟨rfl,rfl,rfl⟩
   refine dS ?_ h
   apply List.ext_getElem?;intro j;rw [iV,Nat.zero_add]
   by_cases hj:j<hp.length
   · rw [if_pos hj]
     cases hpl:place lh j with
     | none=>rfl
     | some k =>
       obtain ⟨h1,h2⟩:=gK _ _ _ hpl
       have e1:lh[k]? = some j:=by
         rw [List.getD_eq_getElem?_getD,List.getElem?_eq_getElem h1] at h2
         rw [List.getElem?_eq_getElem h1];exact congrArg some h2
       have e:(cO hp lh)[k]? = some (hp.getD j emp):=by unfold cO;rw [List.getElem?_map,e1];rfl
       show some ((cO hp lh).getD k emp)=hp[j]?
       rw [List.getD_eq_getElem?_getD,e,List.getElem?_eq_getElem hj]
       show some (hp.getD j emp)=_
       rw [List.getD_eq_getElem?_getD,List.getElem?_eq_getElem hj];rfl
   · rw [if_neg hj,List.getElem?_eq_none (by simp [cO]),List.getElem?_eq_none (by omega)]
 | false=>exact ke (v:=v) false hc ht (fun h=>by cases h) h
theorem Ent.snoc{α:Type}{ps:List Per}{f:α→Per}{l:List α}{x:α}(h:Ent ps (bz f l))(hx:Ent ps (f x)):Ent ps (bz f (l++[x])):=fun w S hp y hy=>(List.mem_append.1 hy).elim (h w S hp y) fun e=>by rw [List.mem_singleton.1 e];exact hx w S hp
end Go.Sy
namespace Go.Proofs.YtfkcmbonmpcbfaaGreat
open Go.RowKit Go.Lp Go.Sy Go.Lv
open Go.Proofs.Tryz
attribute [local irreducible] aL aB awp aC fwp Quiet
theorem yb(r:List UInt8)(bad:Bool){t:List UInt8}{bad':Bool}(h:(eS r bad).1=.R t bad'):t.length≤r.length:=by
 rcases gI r bad with ⟨t1,m,h1,_,_,hl⟩ | h1
 · rw [h1] at h;obtain ⟨rfl,rfl⟩:=CS.R.inj h;omega
 · rw [h1] at h;obtain ⟨rfl,rfl⟩:=CS.R.inj h;exact Nat.zero_le _
theorem ek(r:List UInt8)(bad:Bool):(eS r bad).2≤9223372036854775807:=by
 rcases gI r bad with ⟨t1,m,h1,_,hm,_⟩ | h1
 · rw [h1];exact hm
 · rw [h1];exact Nat.zero_le _
theorem bT{F0 v0 v1 v2 v3 v4:Nat}{α:Type}(X:ElT Tryz.prog v2 v1 α)(hF:isF Tryz.prog F0 (gw v0 v1 v2 v3 v4) 64 #[])(b rb bt:Nat)(T:TypeId)(cs:List Value)(o:Nat)(hco:cs[o]? = some (.slice none 0 0))(p v:Value)(r:List UInt8)(bad:Bool)(hr:r.length≤1000000){τ:Type}(A:Cod τ)(pu:α→τ)(okF:α→Per)
   (F:FuncId) (caps:List Value) (pF:Per) (hFc:dV Tryz.prog F=true)
   (h:∀ (r:List UInt8) (bad:Bool) (bx:Nat),r.length≤1000000→Con Tryz.prog F (.pointer (some ⟨bx,0,none⟩)::caps) [pF] [bR b p v (.pointer (some ⟨rb,0,none⟩)),rdB rb r bad,Box bx v2 X.zs]
     fun _ ps hp'=>∃ (x:α) (r':List UInt8) (bad':Bool),A.one (.R r bad) A.zero=(.R r' bad',pu x)∧ps=[okF x]∧hp'=[bR b p v (.pointer (some ⟨rb,0,none⟩)),rdB rb r' bad',Box bx v2 (X.vs x)]) :
   Con Tryz.prog F0 [.pointer (some ⟨b,0,none⟩),.pointer (some ⟨bt,o,none⟩),.func (.func F) #[] caps.toArray] [pF] [bR b p v (.pointer (some ⟨rb,0,none⟩)),rdB rb r bad,Box bt T cs]
     fun _ ps hp'=>∃ (l:Sl α) (r':List UInt8) (bad':Bool),(cA A).one (.R r bad) []=(.R r' bad',l.l.map pu)∧ps=[ShF X.row l,bz okF l.l]∧hp'=[bR b p v (.pointer (some ⟨rb,0,none⟩)),rdB rb r' bad',Box bt T (cs.set o l.val)]:=by
 have hol:=(List.getElem?_eq_some_iff.1 hco).1
 obtain ⟨w0,hw0⟩:∃ w0,(cA A).one (.R r bad) []=w0:=⟨_,rfl⟩
 rw [hw0]
 have tk_v1:=X.tA
 have tk_v2:=X.tE
 have un_v1:=X.uA
 have el_v1:=X.el
 obtain ⟨fn,hf,hb,hn,hr⟩:=hF
 refine Con.enterG hf hb hn (by simp) ?_
 unfold gw
 show awp _ _ _ _ ⟨[(0,true,_),(1,true,_),(2,true,_)],_,_⟩
 refine cW v2 X.sz ?_
 refine aR (bz okF []) (fun _ _ _ _ hx=>by cases hx) ?_
 show awp _ _ _ _ ⟨_,_,[_,_,_,_]⟩
 refine ah (aSR (aM rfl (UN rfl rfl (UO 2 rfl rfl (UL 0 tk86 rfl rfl rfl rfl (aU rfl (qE (by kernel_rfl) rfl) (aNn ?_)))))))
 refine ao _ rfl (fun h1 => ?_) (fun h1 => ?_)
 ·skip
  exact absurd h1 (by simp)
 ·skip
  refine ar (aj (aSR (aM rfl (UN rfl rfl (UO 2 rfl rfl (UL 0 tk86 rfl rfl rfl rfl (LF rfl (EC [] [1] rfl (uR rb r bad (by omega)) ?_))))))))
  rintro _ _ _ ⟨rfl,t0,bad0,hq0,rfl,rfl⟩
  refine aST ?_
  refine aA rfl (aNn (aq ?_))
  refine aQ [0,1,2,8] [1,0] [0,1,2,3] (fun (q:Nat × (Option Addr × Nat × List α) × List UInt8 × Bool) st=>(eK A q.1 (.R q.2.2.1 q.2.2.2) (q.2.1.2.2.map pu)=w0∧q.1≤9223372036854775807∧q.2.2.1.length≤r.length∧q.2.1.2.2.length+q.2.2.1.length≤r.length+(if (CS.R q.2.2.1 q.2.2.2).fails then 1 else 0))∧st=⟨[(0,true,.pointer (some ⟨b,0,none⟩)),(1,true,.pointer (some ⟨bt,o,none⟩)),(2,true,.func (.func F) #[] caps.toArray),(8,true,.int .i64 q.1)],[bz okF q.2.1.2.2,pF],[bR b p v (.pointer (some ⟨rb,0,none⟩)),rdB rb q.2.2.1 q.2.2.2,Box bt T (cs.set o (.slice q.2.1.1 q.2.1.2.2.length q.2.1.2.1)),aO (.slice q.2.1.1 q.2.1.2.2.length q.2.1.2.1) v2 X.sz (q.2.1.2.2.map X.row)]⟩) (fun q=>q.1) rfl (⟨((eS r bad).2,(none,0,[]),t0,bad0),⟨by rw [← hw0,← hq0];rfl,ek r bad,yb r bad hq0,by have:=yb r bad hq0;show 0+t0.length≤_;omega⟩,by show _=(⟨_,_,[_,_,Box bt T (cs.set o (.slice none 0 0)),_]⟩:Sta);rw [qM hco];rfl⟩) ?_
  rintro ⟨n,⟨ad,cp,m⟩,r1,bad1⟩ st ⟨⟨hw,hnm,hr1,hm⟩,rfl⟩
  dsimp only at hw hnm hr1 hm ⊢
  refine ah (aSR (aM rfl (aU rfl (eA rfl rfl) (aM rfl (aG rfl rfl (fun hc=>aS rfl) ?_)))))
  refine yE (caps:=[]) [] [0,1] (by kernel_rfl) _ rfl rfl rfl (fun _=>rfl) (fun hc=>(aN (ae rfl hc) rfl)) (fun hc=>by rw [List.append_nil];exact (uB b rb p v r1 bad1).post (fun _ _ _ ⟨h1,h2,h3⟩=>⟨h1,h3,h2⟩)) ?_
  refine aG rfl rfl (fun hc=>cV (ae rfl hc)) (aU rfl (bo rfl rfl (fun h=>gt rfl h)) (aNn ?_))
  refine ao _ rfl (fun h2 => ?_) (fun h2 => ?_)
  ·skip
   have hnf:0<n∧(CS.R r1 bad1).fails=false:=by
     rw [Bool.and_eq_true,decide_eq_true_eq,Bool.not_eq_true'] at h2
     exact ⟨by omega,h2.2⟩
   rw [hnf.2] at hm
   obtain ⟨n,rfl⟩:∃ k,n=k+1:=⟨n-1,by omega⟩
   unfold eK at hw
   rw [if_neg (by rw [hnf.2];decide)] at hw
   have hn1:((n+1:Nat):Int)-1=(n:Int):=by omega
   refine ar (aj (ah (aq (aSR (LT rfl (bk (zs:=X.zs) X.hz rfl (fun b11_0=>(aHN ?_))))))))
   refine aNn (aSR (aM rfl (LF rfl (fK [0] [0,1,4] hFc rfl rfl rfl rfl rfl (h r1 bad1 b11_0 (by omega)) ?_))))
   rintro _ _ _ ⟨x,r2,bad2,hone,rfl,rfl⟩
   refine aST ?_
   refine aNn ?_
   rw [hone] at hw
   have hless:=A.less r1 bad1 (by omega)
   obtain ⟨rd,bd,hrd1,hrd2,_⟩:=A.rd r1 bad1 (by omega)
   rw [hone] at hless hrd1
   obtain ⟨rfl,rfl⟩:=CS.R.inj hrd1
   refine aR (bz okF (m++[x])) (Ent.snoc (.of (aI 1 rfl)) (.of (aI 0 rfl))) (DR [6,8] 9 (yC 0 rfl (by kernel_rfl) true rfl rfl (fun _=>aS rfl) (VM 1 rfl rfl (VN 2 rfl rfl rfl ?_))))
   refine bV 3 rfl rfl (bJ 2 tk_v1 rfl rfl (List.getElem?_set_self hol)) ?_
   refine bV 4 rfl rfl (bJ 4 tk_v2 rfl rfl (X.ld x)) (fx (q:=true) 5 rfl (by kernel_rfl) rfl rfl (adR X x rfl rfl (fun v13_5=>(bST rfl ?_))))
   refine fx 6 rfl (by kernel_rfl) rfl rfl (cj 3 el_v1 rfl rfl rfl rfl (cY 5 el_v1 rfl (by simp)) (by first | assumption | simp) (by rw [List.length_map];exact Nat.le_trans (show m.length+1≤1000001 by simp only [Bool.false_eq_true,if_false] at hm;omega) (by decide)) ((m++[x]).length) (by rw [List.length_map,List.length_append];rfl) (fun v13_6 c13_6 => ?_))
   refine bST rfl ?_
   refine VN 7 rfl rfl rfl ?_
   refine fx 8 rfl (by kernel_rfl) rfl rfl (iO 2 ([.slice v13_6 (m++[x]).length c13_6]) ((cs.set o (.slice v13_6 (m++[x]).length c13_6))) tk_v1 rfl rfl rfl rfl rfl ((fun _ h=>by rw [List.mem_singleton.1 h];rfl)) ((by rw [List.length_set];omega)) ((by rw [j9 (by rw [List.length_set];exact hol),List.set_set])) ?_)
   refine bST rfl ?_
   refine BN (bp (aj (aa (aM rfl (aU rfl (dp rfl rfl (by omega)) (aA rfl (aNn ?_)))))))
   refine ⟨[0,1,2,8],[3,0],[0,1,2,3],rfl,?_⟩
   refine ⟨(n,(v13_6,c13_6,m++[x]),r2,bad2),⟨⟨by dsimp only;rw [List.map_append];exact hw,by dsimp only;omega,by dsimp only;omega,?_⟩,by dsimp only;rw [hn1,List.map_append];rfl⟩,by dsimp only;omega⟩
   dsimp only
   rw [List.length_append,List.length_singleton]
   simp only [Bool.false_eq_true,if_false] at hm
   rcases hless with hless | hless
   · have:r2.length<r1.length:=hless
     omega
   · obtain ⟨rfl,rfl⟩:=CS.R.inj (show CS.R r2 bad2=CS.R [] true from hless)
     rw [if_pos (show (CS.R [] true).fails=true from rfl),List.length_nil]
     omega
  ·skip
   have hfin:eK A n (.R r1 bad1) (m.map pu)=(.R r1 bad1,m.map pu):=by
     cases n with
     | zero=>rfl
     | succ n =>
       apply kz
       rw [Bool.and_eq_false_iff] at h2
       rcases h2 with h2 | h2
       · exact absurd (of_decide_eq_false h2) (by omega)
       · simpa using h2
   refine cB 3 rfl (aT (aW (aW (aY ?_))))
   refine th [2,1] [0,1,2] rfl hr ?_ (.inl rfl)
   exact ⟨⟨ad,cp,m⟩,r1,bad1,by rw [← hw,hfin],rfl,rfl⟩
theorem gR:type_of% (bT td lg):=bT td lg
theorem jv:type_of% (bT k9 iB):=bT k9 iB
theorem na:type_of% (bT iG iA):=bT iG iA
theorem mX:type_of% (bT iE ix):=bT iE ix
theorem mY:type_of% (bT iF iy):=bT iF iy
theorem rh:type_of% (bT tc lf):=bT tc lf
theorem km:type_of% (bT gU fL):=bT gU fL
theorem pO:type_of% (bT kX j1):=bT kX j1
theorem oz:type_of% (bT jC je):=bT jC je
theorem pR:type_of% (bT k7 j3):=bT k7 j3
theorem pQ:type_of% (bT kY j2):=bT kY j2
theorem pS:type_of% (bT jc j4):=bT jc j4
theorem mZ:type_of% (bT gg iz):=bT gg iz
theorem ri:type_of% (bT kr lj):=bT kr lj
theorem oy:type_of% (bT gY jd):=bT gY jd
end Go.Proofs.YtfkcmbonmpcbfaaGreat

namespace Go.Proofs.YtfkcmbonmpcbfaaGreat
open Go.RowKit Go.Lp Go.Sy Go.Lv
abbrev tJ:Type:=ByteArray × ByteArray × Int × Int × Int × ByteArray × ByteArray
def dN:Cod tJ:=Cod.prod an (Cod.prod an (Cod.prod ak (Cod.prod ak (Cod.prod ak (Cod.prod an (an))))))
abbrev et(x:ba):tJ:=(x.obj,x.sec,x.kind,x.at_,x.size,x.digest,x.form)
def jI(x:ba):Prop:=Go.Lv.I64 x.kind∧Go.Lv.I64 x.at_∧Go.Lv.I64 x.size
abbrev tG:Type:=ByteArray × ByteArray × Bool × Int × Int × Int
def dL:Cod tG:=Cod.prod an (Cod.prod an (Cod.prod bP (Cod.prod ak (Cod.prod ak (ak)))))
abbrev eo(x:bA):tG:=(x.name,x.version,x.main,x.kind,x.at_,x.size)
def jH(x:bA):Prop:=Go.Lv.I64 x.kind∧Go.Lv.I64 x.at_∧Go.Lv.I64 x.size
abbrev tH:Type:=ByteArray × ByteArray × Int × Bool × Bool
def dM:Cod tH:=Cod.prod an (Cod.prod an (Cod.prod ak (Cod.prod bP (bP))))
abbrev ep(x:bK):tH:=(x.name,x.version,x.kind,x.weak,x.own)
def lk(x:bK):Prop:=Go.Lv.I64 x.kind
abbrev adO:Type:=Int × Int × Int × Int
def jl:Cod adO:=Cod.prod ak (Cod.prod ak (Cod.prod ak (ak)))
abbrev iT(x:fb):adO:=(x.at_,x.kind,x.import_,x.add)
def tn(x:fb):Prop:=Go.Lv.I64 x.at_∧Go.Lv.I64 x.kind∧Go.Lv.I64 x.import_∧Go.Lv.I64 x.add
abbrev xw:Type:=Int × Int × Int
def eJ:Cod xw:=Cod.prod ak (Cod.prod ak (ak))
abbrev fl(x:dw):xw:=(x.from_,x.size,x.to_)
def mG(x:dw):Prop:=Go.Lv.I64 x.from_∧Go.Lv.I64 x.size∧Go.Lv.I64 x.to_
abbrev abY:Type:=ByteArray × Int × Int × Int
def fB:Cod abY:=Cod.prod an (Cod.prod ak (Cod.prod ak (ak)))
abbrev gb(x:cN):abY:=(x.name,x.kind,x.at_,x.size)
def oU(x:cN):Prop:=Go.Lv.I64 x.kind∧Go.Lv.I64 x.at_∧Go.Lv.I64 x.size
abbrev abX:Type:=Int × Int × ByteArray × Int
def fA:Cod abX:=Cod.prod ak (Cod.prod ak (Cod.prod an (ak)))
abbrev ga(x:cS):abX:=(x.sec,x.at_,x.file,x.line)
def oT(x:cS):Prop:=Go.Lv.I64 x.sec∧Go.Lv.I64 x.at_∧Go.Lv.I64 x.line
abbrev abZ:Type:=Int × Int
def fT:Cod abZ:=Cod.prod ak (ak)
abbrev gy(x:bC):abZ:=(x.at_,x.size)
def oV(x:bC):Prop:=Go.Lv.I64 x.at_∧Go.Lv.I64 x.size
abbrev tI:Type:=Int × Int × Int × ByteArray × ByteArray × Int
def dH:Cod tI:=Cod.prod ak (Cod.prod ak (Cod.prod ak (Cod.prod an (Cod.prod an (ak)))))
abbrev er(x:bF):tI:=(x.sec,x.from_,x.to_,x.name,x.file,x.line)
def lq(x:bF):Prop:=Go.Lv.I64 x.sec∧Go.Lv.I64 x.from_∧Go.Lv.I64 x.to_∧Go.Lv.I64 x.line
abbrev adP:Type:=Int × Int × Int × ByteArray × Int × Int
def ir:Cod adP:=Cod.prod ak (Cod.prod ak (Cod.prod ak (Cod.prod an (Cod.prod ak (ak)))))
abbrev ik(x:dJ):adP:=(x.sec,x.from_,x.to_,x.name,x.where_,x.n)
def tp(x:dJ):Prop:=Go.Lv.I64 x.sec∧Go.Lv.I64 x.from_∧Go.Lv.I64 x.to_∧Go.Lv.I64 x.where_∧Go.Lv.I64 x.n
abbrev xv:Type:=Int × Int × Int × Int
def eH:Cod xv:=Cod.prod ak (Cod.prod ak (Cod.prod ak (ak)))
abbrev fk(x:cC):xv:=(x.sec,x.from_,x.to_,x.bytes)
def mE(x:cC):Prop:=Go.Lv.I64 x.sec∧Go.Lv.I64 x.from_∧Go.Lv.I64 x.to_∧Go.Lv.I64 x.bytes
end Go.Proofs.YtfkcmbonmpcbfaaGreat

