/- Parts of the proof, in build order. No condition. -/
import Derived.Test.YtebnelfdimiifaaGreatDoorSa13
import Derived.Test.YtebnelfdimiifaaGreatDoorSa05
import Derived.Test.YtebnelfdimiifaaGreatDoorSa07
import Derived.Test.YtebnelfdimiifaaGreatDoorSa09
set_option linter.unusedSimpArgs false
set_option linter.unusedVariables false
set_option maxHeartbeats 1000000
set_option maxRecDepth 20000
namespace Go.Sy
open Go.RowKit Go.Lp
section
variable {P:Program} {n:Fr} {Q:Exit→Sta→Prop} {ops:Array Oper} {rest:List Oper} {env:Env} {ps:List Per} {hp:List Res} {s:Sta} {d:Option Tmp} {ty:TypeId} {pos:String} {af:Array Edge} {gd:Option (Nat × Bool)} {v:Value}
theorem tY{t:Nat}{f:FuncId}{g:Operand}{T:TypeId}{u:Value}{name:String}{l:List Operand}{ts:Array TypeId}{vs:List Value}(lp lh:List Nat)(hf:dP P f=true)(c:Bool)(hc:guardOf ops env ⟨some t,.call ⟨.invoke g name,l.toArray,ts⟩,ty,pos,af,gd⟩=some c)(ht:fits n (some t)=true)(ok:okH hp lh=true)
   (hgv:c=true→ev env g=some (true,.iface T v)) (hm:∀ w S fp,St w S fp ps hp→∀ k,(method (k+1) T v name).run P w=.ok (f,u) w) (hx:c=true→evs env l=some vs) (hput:iW lh (cI hp lh) 0 hp=hp)
   (hcon:c=true→Con P f (u::vs) (fG ps lp) (cI hp lh) fun r ps' hp'=>(∃ b,r=.bool b)∧ps'=[]∧hp'=cI hp lh)
   (h:∀ b,aL P n ops Q rest ⟨(t,c,.bool b)::env,ps,hp⟩):aL P n ops Q (⟨some t,.call ⟨.invoke g name,l.toArray,ts⟩,ty,pos,af,gd⟩::rest) ⟨env,ps,hp⟩:=by
 cases c with
 | true =>
   refine aW (q:=false) hc (gr lp lh hf (hgv rfl) hm (hx rfl) ht ok rfl (hcon rfl) ?_)
   rintro _ _ _ ⟨⟨b,rfl⟩,rfl,rfl⟩
   rw [hput]
   exact h b
 | false=>exact afJ false hc ht (fun h=>by cases h) (h false)
theorem agb{x y:Operand}{t t':TypeId}(j:Nat)(hj:j≤1000001)(hx:ev s.env x=some (true,.int .i64 ((j:Int)-1)))(hy:ev s.env y=some (true,.int .i64 2)):Quiet P n ⟨d,.binOp .quo t x y t',ty,pos,af,gd⟩ s (.int .i64 (((j-1) / 2:Nat):Int)):=by
 have h:=rL (P:=P) (n:=n) (d:=d) (ty:=ty) (pos:=pos) (af:=af) (gd:=gd) (t:=t) (t':=t') hx hy (by decide)
 have e:IntKind.i64.wrap (((j:Int)-1).tdiv 2)=(((j-1) / 2:Nat):Int):=by
   rcases j with _ | j
   · decide
   · have e1:((j+1:Nat):Int)-1=((j:Nat):Int):=by omega
     rw [e1,show (2:Int)=((2:Nat):Int) from rfl,← Int.ofNat_tdiv,i64_in (by omega),Nat.add_sub_cancel]
 rwa [e] at h
end
end Go.Sy
namespace Go.Proofs.YtebnelfdimiifaaGreatDoor
open Go.RowKit Go.Lp Go.Sy Go.Lv
open Go.Proofs.Tryz
attribute [local irreducible] aL aB awp aC fwp Quiet
theorem rA:nh Tryz.prog 292 "Less" = some (249,false):=by kernel_rfl
theorem rB:nh Tryz.prog 292 "Swap" = some (252,false):=by kernel_rfl
theorem uN:nh Tryz.prog 292 "Len" = some (248,false):=by kernel_rfl
theorem adl:nh Tryz.prog 292 "Push" = some (251,true):=by kernel_rfl
theorem aeR:nh Tryz.prog 292 "Pop" = some (250,true):=by kernel_rfl
theorem r8:Program.underlying Tryz.prog 292=some (.pointer 293):=by kernel_rfl
theorem aef{α:Type}[Inhabited α](l:List α){i j n:Nat}(hi:i<n)(hj:j<n):(swL l i j).drop n=l.drop n:=by
 unfold swL
 rw [List.drop_set_of_lt hj,List.drop_set_of_lt hi]
abbrev hpR(hb:Nat)(hv:Value)(H:List (Sl Int)):List Res:=[Box hb 293 [hv],aN hv 25 1 (hR H)]
theorem afP(hb:Nat)(hv:Value)(H0 H:List (Sl Int))(k:Nat)(hk:k<H.length)(hH:H.length≤1000000)(hne:∀ p∈H0,p.l≠[])(hsub:∀ p∈H,p∈H0) :
   Con Tryz.prog 213 [.iface 292 (.pointer (some ⟨hb,0,none⟩)),.int .i64 k] [b6 (ShF cO) H0] (hpR hb hv H) fun _ ps hp=>ps=[]∧∃ H':List (Sl Int),H'.Perm H∧hp=hpR hb hv H':=by
 refine EN2 Tryz.func213 rfl (aq (aP [0,1] [0] [0,1] (fun (q:List (Sl Int) × Nat) st=>(q.1.Perm H∧q.2<q.1.length)∧st=⟨[(0,true,.iface 292 (.pointer (some ⟨hb,0,none⟩))),(1,true,.int .i64 q.2)],[b6 (ShF cO) H0],hpR hb hv q.1⟩) (fun q=>q.2) rfl (⟨(H,k),⟨.refl _,hk⟩,rfl⟩) ?_))
 rintro ⟨H1,j⟩ st ⟨⟨hP,hj⟩,rfl⟩
 dsimp only at hP hj ⊢
 have hL:=hP.length_eq
 have hi:(j-1) / 2<H1.length:=by omega
 refine aq (aSR (aM rfl (aU rfl (cZ rfl rfl (by omega)) (aU rfl (agb j (by omega) rfl rfl) (aA rfl (aNs (aSR (aM rfl (aM rfl (aU rfl (cA rfl rfl) (aM rfl (aG rfl rfl (fun hc=>aT rfl) (aG rfl rfl (fun hc=>aT rfl) (aG rfl rfl (fun hc=>aT rfl) ?_))))))))))))))
 refine tY (f:=249) [0] [1] (by kernel_rfl) _ rfl rfl rfl (fun hc=>ae rfl hc) (uL 0 rA r8 tk293 rfl rfl) (fun hc=>aK (ae rfl hc) (aK (ae rfl hc) rfl)) rfl (fun _=>oo hv H0 H1 j ((j-1) / 2) hj hi hne fun p hp=>hsub p (hP.mem_iff.1 hp)) (fun bL=>(aG rfl rfl (fun hc=>dO (ae rfl hc)) (aU rfl (dp rfl rfl (fun h=>gf rfl h)) (aNn ?_))))
 refine ao _ rfl (fun h1 => ?_) (fun h1 => ?_)
 ·skip
  refine aR (aS (kG rfl (aS (aY (FZ0 [0,1] Tryz.results213 ?_)))))
  exact ⟨rfl,_,hP,rfl⟩
 ·skip
  refine ax (an (aSR (aM rfl (aM rfl (aM rfl (LF rfl (gr (f:=252) [] [1] (by kernel_rfl) rfl (uL 0 rB r8 tk293 rfl rfl) rfl rfl rfl rfl (oq hv H1 ((j-1) / 2) j hi hj) ?_)))))))
  rintro _ _ _ ⟨rfl,rfl⟩
  refine iN (hp':=hpR hb hv (swL H1 ((j-1) / 2) j)) rfl (aNn (aa (aM rfl (aA rfl (bP (bu (an ?_)))))))
  refine ⟨[0,1],[0],[0,1],rfl,?_⟩
  exact ⟨(swL H1 ((j-1) / 2) j,(j-1) / 2),⟨⟨(rY H1 hi hj).trans hP,by rw [aax];exact hi⟩,rfl⟩,by
    have h2:((j-1) / 2:Nat)≠j:=fun e=>by rw [e] at h1;simp at h1
    dsimp only;omega⟩
theorem acF(hb:Nat)(hv:Value)(H0 H:List (Sl Int))(i0 n:Nat)(h0:i0≤1000000)(hn:n≤H.length)(hH:H.length≤1000000)(hne:∀ p∈H0,p.l≠[])(hsub:∀ p∈H,p∈H0) :
   Con Tryz.prog 214 [.iface 292 (.pointer (some ⟨hb,0,none⟩)),.int .i64 i0,.int .i64 n] [b6 (ShF cO) H0] (hpR hb hv H) fun _ ps hp=>ps=[]∧∃ H':List (Sl Int),H'.Perm H∧H'.drop n=H.drop n∧hp=hpR hb hv H':=by
 refine EN3 Tryz.func214 rfl (aSR (aA rfl (aNn (aSR (aM rfl (aA rfl (aNs (aq (aP [0,1,2,7] [0] [0,1] (fun (q:List (Sl Int) × Nat) st=>(q.1.Perm H∧q.1.drop n=H.drop n∧q.2≤1000000)∧st=⟨[(0,true,.iface 292 (.pointer (some ⟨hb,0,none⟩))),(1,true,.int .i64 i0),(2,true,.int .i64 n),(7,true,.int .i64 q.2)],[b6 (ShF cO) H0],hpR hb hv q.1⟩) (fun q=>n-q.2) rfl (⟨(H,i0),⟨.refl _,rfl,h0⟩,rfl⟩) ?_)))))))))
 rintro ⟨H1,i⟩ st ⟨⟨hP,hD,hi⟩,rfl⟩
 dsimp only at hP hD hi ⊢
 have hL:=hP.length_eq
 have hs1:∀ p∈H1,p∈H0:=fun p hp=>hsub p (hP.mem_iff.1 hp)
 refine aq (aSR (aM rfl (aU rfl (fq rfl rfl (by omega)) (aU rfl (aV rfl rfl (by omega)) (aA rfl (aNs (ai ?_)))))))
 rw [show (2*(i:Int)+1)=((2*i+1:Nat):Int) by omega]
 refine aa (aM rfl (aM rfl (aU rfl (fH rfl rfl) (aM rfl (aG rfl rfl (fun hc=>aT rfl) (aG rfl rfl (fun hc=>bC (ae rfl hc) rfl) (aU rfl (dp rfl rfl (fun h=>gf rfl h)) (aNn ?_))))))))
 refine ao _ rfl (fun h1 => ?_) (fun h1 => ?_)
 ·skip
  refine aR (aS (kG rfl (aS (aY (an (aSR (aM rfl (aM rfl (aU rfl (cN rfl rfl) (aA rfl (aNn (az (FZ1 [0,1] Tryz.results214 rfl ?_)))))))))))))
  exact ⟨rfl,_,hP,hD,rfl⟩
 ·skip
  have hjn:2*i+1<n:=by
    simp at h1;omega
  refine ax (an (aSR (aM rfl (aA rfl (aNs ?_)))))
  refine jw (X := {z:Nat // i<z∧z<n}) (fun z=>⟨[(0,true,.iface 292 (.pointer (some ⟨hb,0,none⟩))),(1,true,.int .i64 i0),(2,true,.int .i64 n),(7,true,.int .i64 i),(9,true,.int .i64 z.1)],[b6 (ShF cO) H0],hpR hb hv H1⟩) ?_ ?_
  ·skip
   refine aSR (aM rfl (aU rfl (aV rfl rfl (by omega)) (aA rfl (aNs ?_))))
   rw [show (((2*i+1:Nat):Int)+1)=((2*i+2:Nat):Int) by omega]
   refine aa (aM rfl (aM rfl (aU rfl (bC rfl rfl) (aM rfl (aG rfl rfl (fun hc=>aT rfl) (aG rfl rfl (fun hc=>aT rfl) (aG rfl rfl (fun hc=>aT rfl) ?_)))))))
   refine tY (f:=249) [0] [1] (by kernel_rfl) _ rfl rfl rfl (fun hc=>ae rfl hc) (uL 0 rA r8 tk293 rfl rfl) (fun hc=>aK (ae rfl hc) (aK (ae rfl hc) rfl)) rfl (fun hc=>oo hv H0 H1 (2*i+2) (2*i+1) (by have hc2:(((2*i+2:Nat):Int))<(n:Int):=(by simpa using hc);omega) (by omega) hne hs1) (fun bL => ?_)
   refine aU rfl (bB rfl rfl (fun h=>gt rfl h)) (aNn ?_)
   refine ao _ rfl (fun h2 => ?_) (fun h2 => ?_)
   ·skip
    refine aa (aM rfl (aA rfl (aNn ?_)))
    first
    | exact ⟨[0,1,2,7,9],[0],[0,1],⟨2*i+2,by omega,by simp at h2;omega⟩,rfl,rfl⟩
    | exact ⟨[0,1,2,7,9],[0],[0,1],⟨2*i+1,by omega,hjn⟩,rfl,rfl⟩
   ·skip
    refine ax (an ?_)
    first
    | exact ⟨[0,1,2,7,9],[0],[0,1],⟨2*i+2,by omega,by simp at h2;omega⟩,rfl,rfl⟩
    | exact ⟨[0,1,2,7,9],[0],[0,1],⟨2*i+1,by omega,hjn⟩,rfl,rfl⟩
  ·skip
   rintro ⟨z,hz1,hz2⟩
   dsimp only
   refine ai (aSR (aM rfl (aM rfl (aM rfl (tY (f:=249) [0] [1] (by kernel_rfl) _ rfl rfl rfl (fun hc=>ae rfl hc) (uL 0 rA r8 tk293 rfl rfl) (fun hc=>aK (ae rfl hc) (aK (ae rfl hc) rfl)) rfl (fun hc=>oo hv H0 H1 z i (by omega) (by omega) hne hs1) (fun bM=>(aU rfl (dO rfl) (aNn ?_))))))))
   refine ao _ rfl (fun h3 => ?_) (fun h3 => ?_)
   ·skip
    refine aR (aS (kG rfl (aS (aY (an (aSR (aM rfl (aM rfl (aU rfl (cN rfl rfl) (aA rfl (aNn (az (FZ1 [0,1] Tryz.results214 rfl ?_)))))))))))))
    exact ⟨rfl,_,hP,hD,rfl⟩
   ·skip
    refine ax (an (aSR (aM rfl (aM rfl (aM rfl (LF rfl (gr (f:=252) [] [1] (by kernel_rfl) rfl (uL 0 rB r8 tk293 rfl rfl) rfl rfl rfl rfl (oq hv H1 i z (by omega) (by omega)) ?_)))))))
    rintro _ _ _ ⟨rfl,rfl⟩
    refine iN (hp':=hpR hb hv (swL H1 i z)) rfl (aNn (aa (aM rfl (aA rfl (bP (bu (an ?_)))))))
    refine ⟨[0,1,2,7],[0],[0,1],rfl,?_⟩
    exact ⟨(swL H1 i z,z),⟨⟨(rY H1 (by omega) (by omega)).trans hP,by rw [aef H1 (by omega) hz2];exact hD,by dsimp only;omega⟩,rfl⟩,by dsimp only;omega⟩
theorem ta(hb:Nat)(hv:Value)(H0 H:List (Sl Int))(p:Sl Int)(hH:H.length≤100000)(hne:∀ p∈H0,p.l≠[])(hsub:∀ q∈H++[p],q∈H0) :
   Con Tryz.prog 196 [.iface 292 (.pointer (some ⟨hb,0,none⟩)),.iface 25 p.val] [b6 (ShF cO) H0] (hpR hb hv H) fun _ ps hp=>ps=[]∧∃ (hv':Value) (H':List (Sl Int)),H'.Perm (H++[p])∧hp=hpR hb hv' H':=by
 have hl:(H++[p]).length=H.length+1:=by simp
 refine EN2 Tryz.func196 rfl (aSR (aM rfl (aM rfl (LF rfl (gr (f:=251) [] [0,1] (by kernel_rfl) rfl (agR adl r8) rfl rfl rfl rfl (aaT hb hv H p (by omega)) ?_)))))
 rintro _ _ _ ⟨hv1,rfl,rfl⟩
 refine iN (hp':=hpR hb hv1 (H++[p])) rfl (aNn (aa (aM rfl (aM rfl (LF rfl (gr (f:=248) [] [1] (by kernel_rfl) rfl (uL 0 uN r8 tk293 rfl rfl) rfl rfl rfl rfl (qL hv1 (H++[p])) ?_))))))
 rintro _ _ _ ⟨rfl,rfl,rfl⟩
 refine iN (hp':=hpR hb hv1 (H++[p])) rfl ?_
 rw [hl]
 refine aU rfl (cZ rfl rfl (by omega)) ?_
 refine LF rfl (EC [0] [0,1] rfl ((by rw [show (((H.length+1:Nat):Int)-1)=((H.length:Nat):Int) by omega];exact afP hb hv1 H0 (H++[p]) H.length (by omega) (by omega) hne hsub)) ?_)
 rintro _ _ _ ⟨rfl,H2,hP2,rfl⟩
 refine aST ?_
 refine bP (FZ0 [0,1] Tryz.results196 ?_)
 exact ⟨rfl,_,_,hP2,rfl⟩
theorem acJ(hb:Nat)(hv:Value)(H0 H:List (Sl Int))(hH:H.length≤100000)(h1:H≠[])(hne:∀ p∈H0,p.l≠[])(hsub:∀ q∈H,q∈H0) :
   Con Tryz.prog 197 [.iface 292 (.pointer (some ⟨hb,0,none⟩))] [b6 (ShF cO) H0] (hpR hb hv H) fun r ps hp=>ps=[]∧∃ (hv':Value) (H':List (Sl Int)) (p:Sl Int),(p::H').Perm H∧r=.iface 25 p.val∧hp=hpR hb hv' H':=by
 have hlp:=List.length_pos_iff.2 h1
 have hsw:=rY H (i:=0) (j:=H.length-1) (by omega) (by omega)
 have hswl:=aax H 0 (H.length-1)
 refine EN1 Tryz.func197 rfl (aSR (aA rfl (aNn (aSR (aM rfl (LF rfl (gr (f:=248) [] [1] (by kernel_rfl) rfl (uL 0 uN r8 tk293 rfl rfl) rfl rfl rfl rfl (qL hv H) ?_)))))))
 rintro _ _ _ ⟨rfl,rfl,rfl⟩
 refine iN (hp':=hpR hb hv H) rfl (aU rfl (cZ rfl rfl (by omega)) (aA rfl (aNs ?_)))
 rw [show ((H.length:Int)-1)=((H.length-1:Nat):Int) by omega]
 refine aa (aM rfl (aM rfl (LF rfl (gr (f:=252) [] [1] (by kernel_rfl) rfl (uL 0 rB r8 tk293 rfl rfl) rfl rfl rfl rfl (oq hv H 0 (H.length-1) (by omega) (by omega)) ?_))))
 rintro _ _ _ ⟨rfl,rfl⟩
 refine iN (hp':=hpR hb hv (swL H 0 (H.length-1))) rfl (aNn (aSR (aM rfl (aM rfl (LF rfl (EC [0] [0,1] rfl (acF hb hv H0 (swL H 0 (H.length-1)) 0 (H.length-1) (by omega) (by omega) (by omega) hne (fun q hq=>hsub q (hsw.mem_iff.1 hq))) ?_))))))
 rintro _ _ _ ⟨rfl,H2,hP2,_,rfl⟩
 refine aST ?_
 refine aNs ?_
 have hl2:=hP2.length_eq
 obtain ⟨H3,p,rfl⟩:∃ H3 p,H2=H3++[p]:=by
   rcases List.eq_nil_or_concat H2 with h | ⟨l,c,h⟩
   · rw [h] at hl2;simp at hl2;omega
   · exact ⟨l,c,by simpa using h⟩
 rw [List.length_append,List.length_singleton] at hl2
 refine aa (aM rfl (LF rfl (gr (f:=250) [] [0,1] (by kernel_rfl) rfl (agR aeR r8) rfl rfl rfl rfl (acH hb hv H3 p (by omega)) ?_)))
 rintro _ _ _ ⟨hv1,rfl,rfl,rfl⟩
 refine iN (hp':=hpR hb hv1 H3) rfl (aA rfl (aNn (az (FZ1 [0,1] Tryz.results197 rfl ?_))))
 exact ⟨rfl,_,_,p,(List.perm_append_comm (l₁:=[p]) (l₂:=H3)).trans (hP2.trans hsw),rfl,rfl⟩
end Go.Proofs.YtebnelfdimiifaaGreatDoor

namespace Go.Sy
open Go.RowKit Go.Lp
section
variable {P:Program} {n:Fr} {Q:Exit→Sta→Prop} {ops:Array Oper} {s:Sta} {V W Z:List Nat} {k:Nat} {L:Array Bool}
theorem zH(le lp lh:List Nat)(ok:okH s.hp lh=true)(h:aC P n ops V W Z Q k L (ng s le lp lh)):aC P n ops V W Z Q k L s:=fun w S fp a hst he hn hd=>by
 obtain ⟨h1,h2⟩:=hst.cI lp lh ok
 exact lf (fun _ _ _ h=>h) (fun a' w' hp=>fS.trans (Evo.refl _ _ _) (fun b hb=>.inl (h2 b hb)) hp) _ _ _ _ (h w S _ a h1 (he.sub (gg _ le)) hn hd)
def rW:List Nat→List (List Nat)
 | []=>[[]]
 | x::l=>rW l++(rW l).map (x :: ·)
theorem lU(D:Nat→Bool):∀ l:List Nat,l.filter D∈rW l
 | []=>by simp [rW]
 | x::l=>by
   unfold rW
   rw [List.filter_cons]
   split
   · exact List.mem_append_right _ (List.mem_map_of_mem (lU D l))
   · exact List.mem_append_left _ (lU D l)
def mD(L:Array Bool)(A:List Nat):Array Bool:=A.foldl (fun L j=>L.setIfInBounds j true) L
theorem lT:∀ (A:List Nat) (L:Array Bool),(mD L A).size=L.size
 | [],_=>rfl
 | j::A,L=>by
   show (mD (L.setIfInBounds j true) A).size=_
   rw [lT A,Array.size_setIfInBounds]
theorem rQ:∀ (A:List Nat) (L:Array Bool) (i:Nat),i<L.size→(mD L A)[i]? = some (A.contains i || L.getD i false)
 | [],L,i,h=>by show L[i]? = _;simp [Array.getD,h]
 | j :: A,L,i,h=>by
   show (mD (L.setIfInBounds j true) A)[i]? = _
   rw [rQ A _ i (by rw [Array.size_setIfInBounds];exact h)]
   congr 1
   rw [List.contains_cons]
   by_cases e:j=i
   · subst e;simp [Array.getD,h]
   · have e2:(i == j)=false:=by simpa using fun h=>e h.symm
     rw [e2,Bool.false_or]
     congr 1
     simp [Array.getD,h,Array.getElem_setIfInBounds,e]
theorem ad9{A B:List Nat}{L:Array Bool}{j:Nat}(h:∀ i,B.contains i=(A.contains i || i == j)):(mD L A).setIfInBounds j true=mD L B:=by
 apply Array.ext_getElem?
 intro i
 by_cases hi:i<L.size
 · rw [rQ B L i hi,h i,Array.getElem?_setIfInBounds]
   split
   · rename_i e;subst e
     rw [lT,if_pos hi];simp
   · rename_i e
     have e2:(i == j)=false:=by simpa using fun h=>e h.symm
     rw [rQ A L i hi,e2,Bool.or_false]
     try simp [Array.getD,hi]
 · rw [Array.getElem?_eq_none (by rw [Array.size_setIfInBounds,lT];omega),Array.getElem?_eq_none (by rw [lT];omega)]
theorem tW.mono{o:Oper}{b1 b2:Bool}{K K':Sta→Prop}(hK:∀ s,K s→K' s)(h:tW P Z n o s b1 b2 K):tW P Z n o s b1 b2 K':=fun w S fp a hst he hn =>
 cJ (fun _ _ ⟨s',S',fp',g1,g⟩=>⟨s',S',fp',hK _ g1,g⟩) (h w S fp a hst he hn)
theorem wL{D:Nat→Bool}{j:Nat}(hD:D j=false):∀ l:List Nat,l.Nodup→j∈l→(l.filter fun i => !(i == j || D i)).length+1=(l.filter fun i => !D i).length
 | [],_,h=>by cases h
 | a :: l,hn,h=>by
   rw [List.nodup_cons] at hn
   rw [List.filter_cons,List.filter_cons]
   by_cases e:a=j
   · subst e
     have:(l.filter fun i => !(i == a || D i))=l.filter fun i => !D i:=List.filter_congr fun x hx=>by
       have:(x == a)=false:=by simpa using fun e:x=a=>hn.1 (e ▸ hx)
       rw [this,Bool.false_or]
     rw [this];simp [hD]
   · have h2:j∈l:=(List.mem_cons.1 h).resolve_left fun e2=>e e2.symm
     have ih:=wL hD l hn.2 h2
     have e3:(a == j)=false:=by simpa using e
     rw [e3,Bool.false_or]
     split
     · rw [List.length_cons,List.length_cons];omega
     · exact ih
theorem acp{α:Type}(J:List Nat)(L0:Array Bool)(F:(Nat→Bool)→(Nat→α)→Sta)(I:(Nat→Bool)→(Nat→α)→Prop)(B:List Nat→Bool)(hB:∀ D vs,I D vs→B (J.filter D)=true)(hnd:J.Nodup)
   (hr:(rW J).all (fun A => !B A || A.length == J.length || (Region.ready .any ops (mD L0 A)).all (fun j=>J.contains j && !A.contains j) && !(Region.ready .any ops (mD L0 A)).isEmpty)=true)
   (hstep:∀ j∈J,∀ D vs,I D vs→D j=false→j∈Region.ready .any ops (mD L0 (J.filter D))→∃ o,ops[j]? = some o∧guardOf ops (F D vs).env o=some true∧tW P Z n o (F D vs) (!V.contains j) (!W.contains j) (fun s'=>∃ le lp lh v,I (fun i=>i == j || D i) (fun i=>if i=j then v else vs i)∧okH s'.hp lh=true∧ng s' le lp lh=F (fun i=>i == j || D i) (fun i=>if i=j then v else vs i)))
   (hend:∀ D vs,I D vs→(∀ j∈J,D j=true)→aC P n ops V W Z Q k (mD L0 J) (F D vs)) :
   ∀ (p:Nat) (D:Nat→Bool) (vs:Nat→α),I D vs→(J.filter fun j => !D j).length=p→aC P n ops V W Z Q (k+p) (mD L0 (J.filter D)) (F D vs)
 | 0,D,vs,hI,hp=>by
   have h0:∀ j∈J,D j=true:=fun j hj=>by
     have:=List.length_eq_zero_iff.1 hp
     cases hD:D j with
     | true=>rfl
     | false =>
       have hm:j∈J.filter fun j => !D j:=List.mem_filter.2 ⟨hj,by rw [hD];rfl⟩
       rw [this] at hm;cases hm
   rw [List.filter_eq_self.2 h0]
   exact hend D vs hI h0
 | p + 1,D,vs,hI,hp=>by
   have h1:=List.all_eq_true.1 hr _ (lU D J)
   have hlen:(J.filter D).length+(p+1)=J.length:=by
     rw [← hp]
     have:∀ l:List Nat,(l.filter D).length+(l.filter fun j => !D j).length=l.length:=fun l=>by
       induction l with
       | nil=>rfl
       | cons a l ih=>rw [List.filter_cons,List.filter_cons];cases D a<;>simp<;>omega
     exact this J
   have hne:((J.filter D).length == J.length)=false:=by rw [beq_eq_false_iff_ne];omega
   rw [hB D vs hI,Bool.not_true,Bool.false_or,hne,Bool.false_or,Bool.and_eq_true] at h1
   obtain ⟨h1,h2⟩:=h1
   cases hrd:Region.ready .any ops (mD L0 (J.filter D)) with
   | nil=>rw [hrd,List.isEmpty_nil] at h2;cases h2
   | cons i js =>
     rw [hrd] at h1
     refine dg i js hrd fun j hj => ?_
     have h3:=List.all_eq_true.1 h1 j hj
     simp only [Bool.and_eq_true,List.contains_iff_mem,Bool.not_eq_true'] at h3
     obtain ⟨hjJ,hjD⟩:=h3
     have hDj:D j=false:=by
       cases hD:D j with
       | false=>rfl
       | true =>
         have:(J.filter D).contains j=true:=by rw [List.contains_iff_mem];exact List.mem_filter.2 ⟨hjJ,hD⟩
         rw [this] at hjD;cases hjD
     obtain ⟨o,ho,hg,hE⟩:=hstep j hjJ D vs hI hDj (by rw [hrd];exact hj)
     refine ⟨o,ho,hg,hE.mono fun s' ⟨le,lp,lh,v,hI2,ok,hs⟩=>zH le lp lh ok ?_⟩
     rw [hs,ad9 (B:=J.filter fun i=>i == j || D i) (fun i=>by
       rw [Bool.eq_iff_iff,Bool.or_eq_true,List.contains_iff_mem,List.contains_iff_mem,List.mem_filter,List.mem_filter,Bool.or_eq_true,beq_iff_eq]
       constructor
       · rintro ⟨h1,h2 | h2⟩
         · exact .inr h2
         · exact .inl ⟨h1,h2⟩
       · rintro (⟨h1,h2⟩ | h2)
         · exact ⟨h1,.inr h2⟩
         · exact ⟨h2 ▸ hjJ,.inl h2⟩)]
     exact acp J L0 F I B hB hnd hr hstep hend p _ _ hI2 (by have:=wL (D:=D) hDj J hnd hjJ;omega)
theorem xo{J:List Nat}{L0:Array Bool}{j:Nat}(bs:List Nat)(h:(rW J).all (fun A => !(Region.ready .any ops (mD L0 A)).contains j || bs.all A.contains)=true){D:Nat→Bool}(hj:j∈Region.ready .any ops (mD L0 (J.filter D))):∀ b∈bs,D b=true:=fun b hb=>by
 have h1:=List.all_eq_true.1 h _ (lU D J)
 rw [List.contains_iff_mem.2 hj,Bool.not_true,Bool.false_or] at h1
 have h2:=List.all_eq_true.1 h1 b hb
 exact (List.mem_filter.1 (List.contains_iff_mem.1 h2)).2
theorem pU{φ:Prop}(h0:∀ w S fp,St w S fp s.ps s.hp→φ)(h:φ→aC P n ops V W Z Q k L s):aC P n ops V W Z Q k L s:=fun w S fp a hst he hn hd=>h (h0 w S fp hst) w S fp a hst he hn hd
end
end Go.Sy

