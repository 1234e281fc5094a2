/- Parts of the proof, in build order. No condition. -/
import Derived.Test.YtfkcmbonmpcbfaaGreatRa24
import Derived.Test.YtfkcmbonmpcbfaaGreatRa05
import Derived.Test.YtfkcmbonmpcbfaaGreatRa09
import Derived.Test.YtfkcmbonmpcbfaaGreatRa23
set_option linter.unusedSimpArgs false
set_option linter.unusedVariables false
set_option maxHeartbeats 1000000
set_option maxRecDepth 20000
namespace Go.Proofs.YtfkcmbonmpcbfaaGreat
open Go.RowKit Go.Lp Go.Sy Go.Lv
open Go.Proofs.Tryz
attribute [local irreducible] aL aB awp aC fwp Quiet
abbrev rdR(b:Nat)(r:List UInt8)(bad:Bool):Res:=Box b 215 [.string (bytesOf r),.bool bad]
theorem oL{r:List UInt8}{i:Nat}(h:i<r.length):r[i]? = some (r.getD i 0):=by rw [List.getD_eq_getElem?_getD,List.getElem?_eq_getElem h];rfl
theorem aat{a c A:Nat}(hc:c<256)(ha:a=A % 18446744073709551616):IntKind.u64.wrap (IntKind.u64.wrap (128*(a:Int))+IntKind.u64.wrap ((c:Int).tmod 128))=(((c % 128+128*A) % 18446744073709551616:Nat):Int):=by
 rw [show (c:Int).tmod 128=((c % 128:Nat):Int) from rfl,IntKind.wrap_u64,IntKind.wrap_u64,IntKind.wrap_u64];omega
theorem jY(b:Nat)(r:List UInt8)(bad:Bool):Con Tryz.prog 234 [.pointer (some ⟨b,0,none⟩)] [] [rdR b r bad] fun _ ps hp=>ps=[]∧hp=[rdR b [] true]:=by
 refine EN1 Tryz.func234 rfl (aSR (aM rfl (UN rfl rfl (UO 0 rfl rfl (aD rfl (aF 0 tk9 rfl rfl rfl rfl (aHK ?_)))))))
 refine aNn (aa (aM rfl (UN rfl rfl (UO 1 rfl rfl (aD rfl (aF 0 tk4 rfl rfl rfl rfl (aHK ?_)))))))
 refine bj (FZ0 [0] Tryz.results234 ?_)
 exact ⟨rfl,rfl⟩
theorem mq(b:Nat)(r:List UInt8)(bad:Bool)(hr:r.length≤4611686018427387904):Con Tryz.prog 235 [.pointer (some ⟨b,0,none⟩)] [] [rdR b r bad] fun v ps hp=>ps=[]∧v=.int .u64 (gq r bad).1∧hp=[rdR b (gq r bad).2.1 (gq r bad).2.2]:=by
 have hsz:(bytesOf r).size=r.length:=rfl
 refine EN1 Tryz.func235 rfl (aSR (aA rfl (aNn (aSR (aA rfl (aNs (aq (aQ [0,3] [] [0] (fun (i:Nat) st=>lG r i∧st=⟨[(0,true,.pointer (some ⟨b,0,none⟩)),(3,true,.int .i64 i)],[],[rdR b r bad]⟩) (fun i=>r.length-i) rfl (⟨0,⟨Nat.zero_le _,fun j u hj=>by omega⟩,rfl⟩) ?_))))))))
 rintro i st ⟨hM,rfl⟩
 have hle:=hM.1
 have hub:=(r.getD i 0).toNat_lt
 refine ah (aSR (aM rfl (aM rfl (UN rfl rfl (UO 0 rfl rfl (UL 0 tk9 rfl rfl rfl rfl (aU rfl (cP Tryz.underlying9 rfl) (aU rfl (bu rfl rfl) (aM rfl (aG rfl rfl (fun hc=>aS rfl) (aG rfl rfl (fun hc=>cD (ae rfl hc)) (aG rfl rfl (fun hc=>qFA (off:=0) (ae rfl hc)) (GL 0 tk9 rfl rfl rfl rfl rfl (aG rfl rfl (fun hc=>aS rfl) ?_))))))))))))))
 refine aG rfl rfl (fun hc=>mJ (i) Tryz.underlying9 (ae rfl hc) (ae rfl hc) (rfl) ((oL (r:=r) (by have h0:decide ((i:Int)<((bytesOf r).size:Int))=true:=gT hc;have:=of_decide_eq_true h0;omega)))) ?_
 refine aG rfl rfl (fun hc=>fi (ae rfl hc) rfl) (aU rfl (bo rfl rfl (fun h=>gt rfl h)) (aNn ?_))
 refine ao _ rfl (fun h1 => ?_) (fun h1 => ?_)
 ·skip
  have hi:i<r.length∧128≤(r.getD i 0).toNat:=by
    rw [Bool.and_eq_true,decide_eq_true_eq,decide_eq_true_eq] at h1
    omega
  refine ar (aj (aq (aa (aM rfl (aU rfl (aX rfl rfl (by omega)) (aA rfl (bj (bp (aj ?_)))))))))
  refine ⟨[0,3],[],[0],rfl,?_⟩
  exact ⟨i+1,⟨hM.step (oL hi.1) hi.2,rfl⟩,by omega⟩
 ·skip
  refine aT (aW (aW (aY (aj (ah (aSR (aM rfl (aM rfl (UN rfl rfl (UO 0 rfl rfl ?_))))))))))
  refine UL 0 tk9 rfl rfl rfl rfl (aU rfl (cP Tryz.underlying9 rfl) (aU rfl (fi rfl rfl) (aM rfl (aG rfl rfl (fun hc=>aS rfl) (aG rfl rfl (fun hc=>eA (ae rfl hc) rfl) (aU rfl (eu rfl rfl (fun h=>gf rfl h)) (aNn ?_)))))))
  refine ao _ rfl (fun h2 => ?_) (fun h2 => ?_)
  ·skip
   have hd:=hM.none (by rw [Bool.or_eq_true,decide_eq_true_eq,decide_eq_true_eq] at h2;omega)
   refine aSR (aM rfl (LF rfl (EC [] [0] rfl (jY b _ _) ?_)))
   rintro _ _ _ ⟨rfl,rfl⟩
   refine aST ?_
   refine aNn (aSR (aA rfl (aNn (ax (bB (FZ1 [0] Tryz.results235 rfl ?_))))))
   rw [jA hd bad];exact ⟨rfl,rfl,rfl⟩
  ·skip
   have hi:i<r.length∧i≤9:=by rw [Bool.or_eq_false_iff,decide_eq_false_iff_not,decide_eq_false_iff_not] at h2;omega
   have hu:=oL hi.1
   have hu1:(r.getD i 0).toNat<128:=by rw [Bool.and_eq_false_iff,decide_eq_false_iff_not,decide_eq_false_iff_not] at h1;omega
   refine ar (aj (aSR (aA rfl (aNs (aSR (aM rfl (aA rfl (aNn (aq ?_)))))))))
   refine aQ [0,3,4,5] [] [0] (fun (q:Nat) st=>q≤i+1∧st=⟨[(0,true,.pointer (some ⟨b,0,none⟩)),(3,true,.int .i64 i),(4,true,.int .u64 ((tM ((r.drop q).take (i+1-q)) % 18446744073709551616:Nat):Int)),(5,true,.int .i64 ((q:Int)-1))],[],[rdR b r bad]⟩) (fun q=>q) rfl (⟨i+1,Nat.le_refl _,by rw [Nat.sub_self,List.take_zero,show (((i+1:Nat):Int)-1)=(i:Int) by omega];rfl⟩) ?_
   rintro q st ⟨hq,rfl⟩
   refine ah (aSR (aM rfl (aU rfl (fi rfl rfl) (aNn ?_))))
   refine ao _ rfl (fun h3 => ?_) (fun h3 => ?_)
   ·skip
    have hq1:1≤q:=by have:=of_decide_eq_true h3;omega
    obtain ⟨p,rfl⟩:∃ p,q=p+1:=⟨q-1,by omega⟩
    have hp:=oL (show p<r.length by omega)
    have hpb:=(r.getD p 0).toNat_lt
    refine ar (aj (ah (aq (aa (aM rfl (aU rfl (yi rfl rfl) (aM rfl (UN rfl rfl (UO 0 rfl rfl (UL 0 tk9 rfl rfl rfl rfl (aM rfl (aU rfl (mJ (p) Tryz.underlying9 rfl rfl ((by omega)) (hp)) (aU rfl (gZ rfl rfl (by decide)) (aU rfl (dm (by kernel_rfl) Tryz.underlying301 rfl) ?_))))))))))))))
    refine aU rfl (qD rfl rfl) (aA rfl (bj (bp (aj (aa (aM rfl (aU rfl (dp rfl rfl (by omega)) (aA rfl (aNn ?_)))))))))
    refine ⟨[0,3,4,5],[],[0],rfl,?_⟩
    refine ⟨p,⟨by omega,?_⟩,by omega⟩
    rw [aat hpb rfl,show i+1-p=(i+1-(p+1))+1 by omega,aak hp,show ((p+1:Nat):Int)-1-1=(p:Int)-1 by omega];rfl
   ·skip
    have hq0:q=0:=by have:=of_decide_eq_false h3;omega
    subst hq0
    rw [List.drop_zero,Nat.sub_zero]
    generalize hv:tM (r.take (i+1)) % 18446744073709551616=v
    have hvl:v<18446744073709551616:=by omega
    refine aT (aW (aW (aY (aj (ah (ah (DR [] 10 (VM 0 rfl rfl (bV 1 rfl rfl (Q0 rfl ((ja v hvl).post (fun _ _ _ h=>h.2.2))) (VM 2 rfl rfl (VN 3 rfl rfl rfl (VO 4 0 rfl rfl rfl (VL 5 0 tk9 rfl rfl rfl rfl rfl (VM 6 rfl rfl (bV 7 rfl rfl (aX rfl rfl (by omega)) ?_)))))))))))))))
    refine bV 8 rfl rfl (oW Tryz.underlying9 rfl rfl (by omega) (by omega)) (bV 9 rfl rfl (oY rfl rfl) (BN (aj ?_)))
    refine ao _ rfl (fun h4 => ?_) (fun h4 => ?_)
    ·skip
     have hd:=aaD hM hu hu1 hv.symm (fun e=>by rw [gp r (i:=i+1) (by omega),e] at h4;simp at h4)
     refine aSR (aM rfl (LF rfl (EC [] [0] rfl (jY b _ _) ?_)))
     rintro _ _ _ ⟨rfl,rfl⟩
     refine aST ?_
     refine aNn (aSR (aA rfl (aNn (ax (bB (FZ1 [0] Tryz.results235 rfl ?_))))))
     rw [jA hd bad];exact ⟨rfl,rfl,rfl⟩
    ·skip
     have hd:=aaE hvl (r:=r) (i:=i) (by rw [gp r (i:=i+1) (by omega)] at h4;simpa using h4)
     refine ar (aj (aSR (aM rfl (aM rfl (UN rfl rfl (UO 0 rfl rfl (UL 0 tk9 rfl rfl rfl rfl (aM rfl (aU rfl (aX rfl rfl (by omega)) (aU rfl (oX Tryz.underlying9 rfl rfl (by omega) (by omega)) (UN rfl rfl (UO 0 rfl rfl (aD rfl (aF 0 tk9 rfl rfl rfl rfl (aHK ?_)))))))))))))))
     refine aNn (aSR (aM rfl (aA rfl (aNn (ax (FZ1 [0] Tryz.results235 rfl ?_))))))
     rw [rQ hd bad];exact ⟨rfl,rfl,congrArg (fun x=>[Box b 215 [.string x,.bool bad]]) (iq r (z:=(i:Int)+1) (i:=i+1) (by omega))⟩
theorem dP(b:Nat)(r:List UInt8)(bad:Bool)(hr:r.length≤4611686018427387904):Con Tryz.prog 125 [.pointer (some ⟨b,0,none⟩)] [] [rdR b r bad] fun v ps hp=>ps=[]∧∃ t bad',(eS r bad).1=.R t bad'∧v=.int .i64 (eS r bad).2∧hp=[rdR b t bad']:=by
 have hlt:=oO r bad
 have hnr:=vh r bad
 generalize hd:gq r bad=d at hlt hnr
 refine EN1 Tryz.func125 rfl (aSR (aA rfl (aNn (aSR (aM rfl (LF rfl (EC [] [0] rfl (mq b r bad hr) ?_)))))))
 rw [hd];rintro _ _ _ ⟨rfl,rfl,rfl⟩
 refine aST ?_
 refine aA rfl (aNs (aSR (aM rfl (aU rfl (fi rfl rfl) (aNn ?_)))))
 refine ao _ rfl (fun h1 => ?_) (fun h1 => ?_)
 ·skip
  have hc:d.1>9223372036854775807:=by have:=of_decide_eq_true h1;omega
  rw [if_pos hc] at hnr
  refine aSR (aM rfl (LF rfl (EC [] [0] rfl (jY b _ _) ?_)))
  rintro _ _ _ ⟨rfl,rfl⟩
  refine aST ?_
  refine aNn (aSR (aA rfl (aNn (ax (bB (FZ1 [0] Tryz.results125 rfl ?_))))))
  exact ⟨rfl,_,_,congrArg Prod.fst hnr,by rw [hnr];rfl,rfl⟩
 ·skip
  have hc:¬ d.1>9223372036854775807:=by have:=of_decide_eq_false h1;omega
  rw [if_neg hc] at hnr
  refine ar (aj (aSR (aM rfl ?_)))
  refine aU rfl ((dm (by kernel_rfl) Tryz.underlying3 rfl).castV (v':=.int .i64 d.1) (congrArg (Value.int .i64) (by rw [IntKind.wrap_i64];omega))) ?_
  refine aA rfl (aNn (ax (FZ1 [0] Tryz.results125 rfl ?_)))
  exact ⟨rfl,_,_,congrArg Prod.fst hnr,by rw [hnr],rfl⟩
theorem aa8{m:Nat}(h:m<18446744073709551616):IntKind.i64.wrap (IntKind.u64.wrap ((m:Int).tdiv 2))=((m / 2:Nat):Int):=by
 rw [show (m:Int).tdiv 2=((m / 2:Nat):Int) from rfl,IntKind.wrap_u64,IntKind.wrap_i64];omega
theorem adq{m:Nat}(h:m<18446744073709551616):IntKind.i64.wrap (-(IntKind.i64.wrap (IntKind.u64.wrap ((m:Int).tdiv 2)))) = -((m / 2:Nat):Int):=by
 rw [aa8 h,IntKind.wrap_i64];omega
theorem zb(b:Nat)(r:List UInt8)(bad:Bool)(hr:r.length≤4611686018427387904)(z:Int):Con Tryz.prog 124 [.pointer (some ⟨b,0,none⟩)] [] [rdR b r bad] fun v ps hp=>ps=[]∧∃ t bad',(iS (.R r bad) z).1=.R t bad'∧v=.int .i64 (iS (.R r bad) z).2∧hp=[rdR b t bad']:=by
 have hlt:=oO r bad
 rw [qx r bad z]
 generalize hd:gq r bad=d at hlt
 refine EN1 Tryz.func124 rfl (aSR (aA rfl (aNn (aSR (aM rfl (LF rfl (EC [] [0] rfl (mq b r bad hr) ?_)))))))
 rw [hd];rintro _ _ _ ⟨rfl,rfl,rfl⟩
 refine aST ?_
 refine aA rfl (aNs (aSR (aM rfl (aU rfl (gZ rfl rfl (by decide)) (aU rfl (cJ rfl rfl) (aNn ?_))))))
 refine ao _ rfl (fun h1 => ?_) (fun h1 => ?_)
 ·skip
  have hc:d.1 % 2=1:=by have h:=of_decide_eq_true h1;rw [show (d.1:Int).tmod 2=((d.1 % 2:Nat):Int) from rfl] at h;omega
  have hn:=adq hlt
  refine aSR (aM rfl (aU rfl (qF rfl rfl (by decide)) (aU rfl (dm (by kernel_rfl) Tryz.underlying3 rfl) (aU rfl (abG rfl) (aU rfl (dp rfl rfl (by omega)) (aA rfl (aNn (ax (bB (FZ1 [0] Tryz.results124 rfl ?_))))))))))
  exact ⟨rfl,_,_,rfl,congrArg (Value.int .i64) (by rw [hn];unfold qT;rw [if_pos hc]),rfl⟩
 ·skip
  have hc:¬ d.1 % 2=1:=by have h:=of_decide_eq_false h1;rw [show (d.1:Int).tmod 2=((d.1 % 2:Nat):Int) from rfl] at h;omega
  refine ar (aj (aSR (aM rfl (aU rfl (qF rfl rfl (by decide)) (aU rfl (dm (by kernel_rfl) Tryz.underlying3 rfl) (aA rfl (aNn (ax (FZ1 [0] Tryz.results124 rfl ?_)))))))))
  exact ⟨rfl,_,_,rfl,congrArg (Value.int .i64) (by rw [aa8 hlt];unfold qT;rw [if_neg hc]),rfl⟩
theorem p4(b:Nat)(r:List UInt8)(bad:Bool)(hr:r.length≤4611686018427387904)(z:ByteArray):Con Tryz.prog 123 [.pointer (some ⟨b,0,none⟩)] [] [rdR b r bad] fun v ps hp=>ps=[]∧∃ t bad',(ka (.R r bad) z).1=.R t bad'∧v=.string (ka (.R r bad) z).2∧hp=[rdR b t bad']:=by
 refine EN1 Tryz.func123 rfl (aSR (aA rfl (aNn (aSR (aM rfl (LF rfl (EC [] [0] rfl (dP b r bad hr) ?_)))))))
 rintro _ _ _ ⟨rfl,t,bad',hn,rfl,rfl⟩
 refine aST ?_
 refine aA rfl (aNs (ah ?_))
 have htx:=sn hn
 have hsz:(bytesOf t).size=t.length:=rfl
 generalize (eS r bad).2=m at htx ⊢
 refine aa (aM rfl (aM rfl (UN rfl rfl (UO 0 rfl rfl (UL 0 tk9 rfl rfl rfl rfl (aU rfl (cP Tryz.underlying9 rfl) (aU rfl (eA rfl rfl) (aNn ?_))))))))
 refine ao _ rfl (fun h1 => ?_) (fun h1 => ?_)
 ·skip
  have hc:m>t.length:=by simp at h1;omega
  rw [if_pos hc] at htx
  refine aSR (aM rfl (LF rfl (EC [] [0] rfl (jY b _ _) ?_)))
  rintro _ _ _ ⟨rfl,rfl⟩
  refine aST ?_
  refine aNn (aSR (aA rfl (aNn (ax (bB (FZ1 [0] Tryz.results123 rfl ?_))))))
  exact ⟨rfl,_,_,congrArg Prod.fst htx,congrArg Value.string (congrArg bytesOf (congrArg Prod.snd htx)).symm,rfl⟩
 ·skip
  have hc:¬ m>t.length:=by simp at h1;omega
  rw [if_neg hc] at htx
  refine ar (aj (aSR (aM rfl (UN rfl rfl (UO 0 rfl rfl (UL 0 tk9 rfl rfl rfl rfl (aM rfl (aU rfl (oW Tryz.underlying9 rfl rfl (by omega) (by omega)) (aA rfl (aNn (aSR (aM rfl (aM rfl (UN rfl rfl (UO 0 rfl rfl ?_)))))))))))))))
  refine UL 0 tk9 rfl rfl rfl rfl (aM rfl (aU rfl (oX Tryz.underlying9 rfl rfl (by omega) (by omega)) (UN rfl rfl (UO 0 rfl rfl (aD rfl (aF 0 tk9 rfl rfl rfl rfl (aHK ?_)))))))
  refine aNn (aSR (aM rfl (aA rfl (aNn (ax (FZ1 [0] Tryz.results123 rfl ?_))))))
  refine ⟨rfl,_,_,congrArg Prod.fst htx,?_,?_⟩
  · exact congrArg Value.string ((gp t rfl).trans (congrArg bytesOf (congrArg Prod.snd htx)).symm)
  · exact congrArg (fun x=>[Box b 215 [.string x,.bool bad']]) (iq t rfl)
theorem wF(b:Nat)(r:List UInt8)(bad:Bool):Con Tryz.prog 59 [.pointer (some ⟨b,0,none⟩)] [] [rdR b r bad] fun v ps hp=>ps=[]∧v=.bool (!bad && r.isEmpty)∧hp=[rdR b r bad]:=by
 refine EN1 Tryz.func59 rfl (aSR (aA rfl (aNn (aSR (aM rfl (UN rfl rfl (UO 1 rfl rfl (UL 0 tk4 rfl rfl rfl rfl (aU rfl (cV rfl) (aM rfl (aG rfl rfl (fun hc=>aS rfl) (aG rfl rfl (fun hc=>cD (ae rfl hc)) (aG rfl rfl (fun hc=>qFA (off:=0) (ae rfl hc)) ?_)))))))))))))
 refine GL 0 tk9 rfl rfl rfl rfl rfl (aG rfl rfl (fun hc=>jh (ae rfl hc) rfl) (aU rfl (bo rfl rfl (fun h=>gt rfl h)) (aA rfl (aNn (ax (FZ1 [0] Tryz.results59 rfl ?_))))))
 refine ⟨rfl,congrArg Value.bool ?_,rfl⟩
 rw [lH]
theorem wG(r:List UInt8):Con Tryz.prog 46 [.string (bytesOf r)] [] [] fun v ps hp=>ps=[]∧∃ b,v=.pointer (some ⟨b,0,none⟩)∧hp=[rdR b r false]:=by
 refine EN1 Tryz.func46 rfl (aSR (aA rfl (aNn (aSR (aM rfl (aU rfl (eb (l:=[(0,.tmp 3)]) (zs:=[.string .empty,.bool false]) (pl:=[(0,1),(1,1)]) (by kernel_rfl) (by kernel_rfl) (by kernel_rfl) rfl rfl rfl) (LT rfl (wU ([.string (bytesOf r),.bool false]) rfl rfl rfl (fun b1_2=>(aHN ?_))))))))))
 refine aA rfl (aNn (ax (FZ1 [0] Tryz.results46 rfl ?_)))
 exact ⟨rfl,_,rfl,rfl⟩
theorem ca(s:ByteArray)(hs:s.size≤4611686018427387904):Con Tryz.prog 127 [.string s] [] [] fun r _ _=>r=.string (bytesOf (tg s)):=by
 refine EN1 Tryz.func127 rfl (aSR (aA rfl (aNn (aSR (aM rfl (aU rfl (Q0 rfl ((p9 s hs).post (fun _ _ _ h=>h.2.2))) (aA rfl (aNn (ax (FZ1 [] Tryz.results127 rfl ?_))))))))))
 rfl
theorem dg(m:Nat)(hm:m≤9223372036854775807):Con Tryz.prog 130 [.int .i64 m] [] [] fun r _ _=>r=.string (bytesOf (aV m)):=by
 refine EN1 Tryz.func130 rfl (aSR (aA rfl (aNn (aSR (aM rfl (aU rfl (Q0 rfl ((kV m hm).post (fun _ _ _ h=>h.2.2))) (aA rfl (aNn (ax (FZ1 [] Tryz.results130 rfl ?_))))))))))
 rfl
theorem jW(x:Bool):Con Tryz.prog 128 [.bool x] [] [] fun r _ _=>r=.string (bytesOf (bP.enc x)):=by
 refine EN1 Tryz.func128 rfl (aSR (aA rfl (aNs (aSR (aM rfl (aNn ?_))))))
 refine ao _ rfl (fun h1 => ?_) (fun h1 => ?_)
 ·skip
  refine aSR (aU rfl (Q0 rfl ((kU 1 (by decide)).post (fun _ _ _ h=>h.2.2))) (aA rfl (aNn (ax (bB (FZ1 [] Tryz.results128 rfl ?_))))))
  rw [h1];rfl
 ·skip
  refine ar (aj (aSR (aU rfl (Q0 rfl ((kU 0 (by decide)).post (fun _ _ _ h=>h.2.2))) (aA rfl (aNn (ax (FZ1 [] Tryz.results128 rfl ?_)))))))
  rw [h1];rfl
theorem bZ(l:Sl Int)(hI:∀ y∈l.l,Go.Lv.I64 y)(hl:(aP ak.enc l.l).length≤1000000000):Con Tryz.prog 129 [l.val] [ShF (fun z=>[.v (.int .i64 z)]) l] [] fun r ps hp=>ps=[]∧hp=[]∧r=.string (bytesOf (aP ak.enc l.l)):=by
 refine EN1 Tryz.func129 rfl (bY (.of (aI 0 rfl)) (fun hlen=>(aSR (aA rfl (aNn (aSR (aA rfl (aNs (aSR (aA rfl (aNn (aq ?_))))))))))))
 refine aQ [0,3,4] [0] [] (fun (k:Nat) st=>k≤l.l.length∧st=⟨[(0,true,l.val),(3,true,.string (bytesOf (aP ak.enc (l.l.take k)))),(4,true,.int .i64 k)],[ShF (fun z=>[.v (.int .i64 z)]) l],[]⟩) (fun k=>l.l.length-k) rfl (⟨0,Nat.zero_le _,by rw [List.take_zero];rfl⟩) ?_
 rintro k st ⟨hk,rfl⟩
 refine ah (aSR (aM rfl (aM rfl (aU rfl (aZ Tryz.underlying26 rfl) (aU rfl (bu rfl rfl) (aNn ?_))))))
 refine ao _ rfl (fun h1 => ?_) (fun h1 => ?_)
 ·skip
  have hk':k<l.l.length:=by simpa using h1
  obtain ⟨x,hx⟩:∃ x,l.l[k]? = some x:=⟨_,List.getElem?_eq_getElem hk'⟩
  have hen:=eQ (e:=ak.enc) hx
  have hle:=iu (e:=ak.enc) l.l (k+1)
  rw [hen,List.length_append] at hle
  refine ar (aj (ah (aq (aa (aM rfl (aM rfl (aM rfl (UI Tryz.underlying26 tk3 0 rfl rfl rfl rfl rfl (aK hx) rfl rfl (fun ⟨b5_3,o5_3⟩=>(US 0 tk3 0 rfl rfl rfl rfl rfl (aU rfl (Q0 rfl ((kU x (hI x (List.mem_of_getElem? hx))).post (fun _ _ _ h=>h.2.2))) ?_)))))))))))
  refine aU rfl (kE rfl rfl (by show (aP ak.enc (l.l.take k)).length+(ak.enc x).length≤_;exact Nat.le_trans (show _≤1000000000 by omega) (by decide))) ?_
  refine aA rfl (bj (bp (aj (aa (aM rfl (aU rfl (aX rfl rfl (by omega)) (aA rfl (aNn ?_))))))))
  refine ⟨[0,3,4],[0],[],rfl,?_⟩
  refine ⟨k+1,⟨hk',?_⟩,by omega⟩
  rw [hen,eD _ (ak.enc x)]
  rfl
 ·skip
  have hke:k=l.l.length:=by simp at h1;omega
  subst hke
  refine aT (aW (aW (aY (aj (aSR (aM rfl (aA rfl (aNn (ax (FZ1 [] Tryz.results129 rfl ?_))))))))))
  exact ⟨rfl,rfl,by rw [List.take_length]⟩
end Go.Proofs.YtfkcmbonmpcbfaaGreat

namespace Go.Sy
open Go.RowKit Go.Lp Go.Lv
theorem fM{P:Program}{n:Fr}{d:Option Tmp}{ty:TypeId}{pos:String}{af:Array Edge}{gd:Option (Nat × Bool)}{s:Sta}{x y:Operand}{t t':TypeId}{a b:List UInt8}(hx:ev s.env x=some (true,.string (bytesOf a)))(hy:ev s.env y=some (true,.string (bytesOf b)))(h:a.length+b.length≤1000000000):Quiet P n ⟨d,.binOp .add t x y t',ty,pos,af,gd⟩ s (.string (bytesOf (a++b))) :=
 (kE hx hy (Nat.le_trans (show a.length+b.length≤1000000000 from h) (by decide))).castV (congrArg Value.string (eD a b).symm)
end Go.Sy
namespace Go.Proofs.YtfkcmbonmpcbfaaGreat
open Go.RowKit Go.Lp Go.Sy Go.Lv
open Go.Proofs.Tryz
attribute [local irreducible] aL aB awp aC fwp Quiet
theorem oC(l:Sl aH)(hl:(aV l.l.length++aP cE l.l).length≤1000000000):Con Tryz.prog 134 [l.val] [ShF aH.row l,bz aH.ok l.l] [] fun r ps hp=>ps=[]∧hp=[]∧r=.string (bytesOf (aV l.l.length++aP cE l.l)):=by
 rw [List.length_append] at hl
 refine EN1 Tryz.func134 rfl (bY (.of (aI 0 rfl)) (fun hlen=>(aSR (aA rfl (aNn (aSR (aM rfl (aU rfl (aZ Tryz.underlying29 rfl) (aU rfl (Q0 rfl (dg l.l.length hlen)) (aA rfl (aNs (aSR (aA rfl (aNn (aq ?_)))))))))))))))
 refine aQ [0,3,4] [1,0] [] (fun (k:Nat) st=>k≤l.l.length∧st=⟨[(0,true,l.val),(3,true,.string (bytesOf (aV l.l.length++aP cE (l.l.take k)))),(4,true,.int .i64 k)],[ShF aH.row l,bz aH.ok l.l],[]⟩) (fun k=>l.l.length-k) rfl (⟨0,Nat.zero_le _,by rw [List.take_zero];show _=(⟨[_,(3,true,.string (bytesOf (aV l.l.length++[]))),_],_,_⟩:Sta);rw [List.append_nil];rfl⟩) ?_
 rintro k st ⟨hk,rfl⟩
 refine ah (aSR (aM rfl (aM rfl (aU rfl (aZ Tryz.underlying29 rfl) (aU rfl (bu rfl rfl) (aNn ?_))))))
 refine ao _ rfl (fun h1 => ?_) (fun h1 => ?_)
 ·skip
  have hk':k<l.l.length:=by simpa using h1
  obtain ⟨x,hx⟩:∃ x,l.l[k]? = some x:=⟨_,List.getElem?_eq_getElem hk'⟩
  have hen:=eQ (e:=cE) hx
  have hle:=iu (e:=cE) l.l (k+1)
  have hxe:cE x=an.enc x.name++(aV x.parents.l.length++aP an.enc x.parents.l):=rfl
  have htl:=gP x.name
  have hnx:=hen
  rw [hxe] at hnx
  have hst:aV l.l.length++aP cE (l.l.take (k+1))=((aV l.l.length++aP cE (l.l.take k))++an.enc x.name)++(aV x.parents.l.length++aP an.enc x.parents.l):=by rw [hnx];simp only [List.append_assoc]
  rw [hnx,List.length_append,List.length_append,List.length_append] at hle
  refine aR _ (aH.f_parents (Ent.all (f:=aH.ok) (.of (aI 1 rfl)) hx)) (ar (aj (ah (aq (DR [] 16 (VM 0 rfl rfl (VM 1 rfl rfl (VM 2 rfl rfl (XI 3 Tryz.underlying29 tk195 1 rfl rfl rfl rfl rfl rfl (aK hx) rfl rfl (fun ⟨b5_3,o5_3⟩=>(VO 4 0 rfl rfl rfl (VT 5 0 tk9 0 rfl rfl rfl rfl rfl rfl (bV 6 rfl rfl (Q0 rfl (ca x.name (by omega))) ?_)))))))))))))
  refine bV 7 rfl rfl (fM rfl rfl (by show (aV l.l.length++aP cE (l.l.take k)).length+(an.enc x.name).length≤_;rw [List.length_append];omega)) ?_
  refine VM 8 rfl rfl (VM 9 rfl rfl (XI 10 Tryz.underlying29 tk195 2 rfl rfl rfl rfl rfl rfl (aK hx) rfl rfl (fun ⟨b5_10,o5_10⟩=>(VO 11 1 rfl rfl rfl (VT 12 1 tk28 0 rfl rfl rfl rfl rfl rfl ?_)))))
  refine bV 13 rfl rfl (Q1 rfl ((n9 x.parents (by rw [List.length_append];omega)).post (fun _ _ _ h=>h.2.2)) 2 rfl) ?_
  refine bV 14 rfl rfl (fM rfl rfl (by show ((aV l.l.length++aP cE (l.l.take k))++an.enc x.name).length+(aV x.parents.l.length++aP an.enc x.parents.l).length≤_;simp only [List.length_append];omega)) ?_
  refine bV 15 rfl rfl (bE rfl) (BN (bp (aj (aa (aM rfl (aU rfl (aX rfl rfl (by omega)) (aA rfl (aNn ?_))))))))
  refine ⟨[0,3,4],[1,0],[],rfl,?_⟩
  refine ⟨k+1,⟨hk',?_⟩,by omega⟩
  rw [hst]
  rfl
 ·skip
  have hke:k=l.l.length:=by simp at h1;omega
  subst hke
  refine aT (aW (aW (aY (aj (aSR (aM rfl (aA rfl (aNn (ax (FZ1 [] Tryz.results134 rfl ?_))))))))))
  exact ⟨rfl,rfl,by rw [List.take_length]⟩
theorem pZ(l:Sl bA)(hI:∀ y∈l.l,jH y)(hl:(aV l.l.length++aP cT l.l).length≤1000000000):Con Tryz.prog 131 [l.val] [ShF bA.row l] [] fun r ps hp=>ps=[]∧hp=[]∧r=.string (bytesOf (aV l.l.length++aP cT l.l)):=by
 rw [List.length_append] at hl
 refine EN1 Tryz.func131 rfl (bY (.of (aI 0 rfl)) (fun hlen=>(aSR (aA rfl (aNn (aSR (aM rfl (aU rfl (aZ Tryz.underlying24 rfl) (aU rfl (Q0 rfl (dg l.l.length hlen)) (aA rfl (aNs (aSR (aA rfl (aNn (aq ?_)))))))))))))))
 refine aQ [0,3,4] [0] [] (fun (k:Nat) st=>k≤l.l.length∧st=⟨[(0,true,l.val),(3,true,.string (bytesOf (aV l.l.length++aP cT (l.l.take k)))),(4,true,.int .i64 k)],[ShF bA.row l],[]⟩) (fun k=>l.l.length-k) rfl (⟨0,Nat.zero_le _,by rw [List.take_zero];show _=(⟨[_,(3,true,.string (bytesOf (aV l.l.length++[]))),_],_,_⟩:Sta);rw [List.append_nil];rfl⟩) ?_
 rintro k st ⟨hk,rfl⟩
 refine ah (aSR (aM rfl (aM rfl (aU rfl (aZ Tryz.underlying24 rfl) (aU rfl (bu rfl rfl) (aNn ?_))))))
 refine ao _ rfl (fun h1 => ?_) (fun h1 => ?_)
 ·skip
  have hk':k<l.l.length:=by simpa using h1
  obtain ⟨x,hx⟩:∃ x,l.l[k]? = some x:=⟨_,List.getElem?_eq_getElem hk'⟩
  have hw:=hI x (List.mem_of_getElem? hx)
  have hen:=eQ (e:=cT) hx
  have hle:=iu (e:=cT) l.l (k+1)
  have hxe:cT x=an.enc x.name++(an.enc x.version++(bP.enc x.main++aP ak.enc [x.kind,x.at_,x.size])):=by
    show an.enc x.name++(an.enc x.version++(bP.enc x.main++(ak.enc x.kind++(ak.enc x.at_++ak.enc x.size))))=_
    simp only [aP,List.map_cons,List.map_nil,List.flatten_cons,List.flatten_nil,List.append_nil]
  have ht1:=gP x.name
  have ht2:=gP x.version
  have hi3:∀ y∈[x.kind,x.at_,x.size],Go.Lv.I64 y:=fun y hy=>by
    simp only [List.mem_cons,List.not_mem_nil,or_false] at hy
    rcases hy with rfl | rfl | rfl
    · exact hw.1
    · exact hw.2.1
    · exact hw.2.2
  have hnx:=hen
  rw [hxe] at hnx
  have hst:aV l.l.length++aP cT (l.l.take (k+1))=((((aV l.l.length++aP cT (l.l.take k))++an.enc x.name)++an.enc x.version)++bP.enc x.main)++aP ak.enc [x.kind,x.at_,x.size]:=by rw [hnx];simp only [List.append_assoc]
  rw [hnx] at hle
  simp only [List.length_append] at hle
  refine ar (aj (ah (aq (aSR (aM rfl (aM rfl (UI Tryz.underlying24 tk159 0 rfl rfl rfl rfl rfl (aK hx) rfl rfl (fun ⟨b5_2,o5_2⟩=>(US 0 tk159 0 rfl rfl rfl rfl rfl (LT rfl (bk (zs:=[.string .empty,.string .empty,.bool false,.int .i64 0,.int .i64 0,.int .i64 0]) (by kernel_rfl) rfl (fun b5_4=>(aHN ?_)))))))))))))
  refine aD rfl (aF 0 tk159 rfl rfl rfl rfl (aHK ?_))
  refine aNn (DR [] 23 (VM 0 rfl rfl (VO 1 0 rfl rfl rfl (VL 2 0 tk9 rfl rfl rfl rfl rfl (bV 3 rfl rfl (Q0 rfl (ca x.name (by omega))) ?_)))))
  refine bV 4 rfl rfl (fM rfl rfl (by show (aV l.l.length++aP cT (l.l.take k)).length+(an.enc x.name).length≤_;simp only [List.length_append];omega)) ?_
  refine VO 5 1 rfl rfl rfl (VL 6 0 tk9 rfl rfl rfl rfl rfl (bV 7 rfl rfl (Q0 rfl (ca x.version (by omega))) ?_))
  refine bV 8 rfl rfl (fM rfl rfl (by show ((aV l.l.length++aP cT (l.l.take k))++an.enc x.name).length+(an.enc x.version).length≤_;simp only [List.length_append];omega)) ?_
  refine VO 9 2 rfl rfl rfl (VL 10 0 tk4 rfl rfl rfl rfl rfl (bV 11 rfl rfl (Q0 rfl (jW x.main)) ?_))
  refine bV 12 rfl rfl (fM rfl rfl (by show (((aV l.l.length++aP cT (l.l.take k))++an.enc x.name)++an.enc x.version).length+(bP.enc x.main).length≤_;simp only [List.length_append];omega)) ?_
  refine VO 13 3 rfl rfl rfl (VL 14 0 tk3 rfl rfl rfl rfl rfl (VO 15 4 rfl rfl rfl (VL 16 0 tk3 rfl rfl rfl rfl rfl (VO 17 5 rfl rfl rfl (VL 18 0 tk3 rfl rfl rfl rfl rfl (VB (zs:=[.int .i64 0]) 19 rfl el26 rfl rfl rfl rfl (.more rfl (.v rfl .nil) (.more rfl (.v rfl .nil) (.more rfl (.v rfl .nil) .nil))) rfl rfl (fun v6_19 => ?_)))))))
  refine fx (q:=true) 20 rfl (by kernel_rfl) rfl rfl (EC [2] [] rfl (bZ ⟨v6_19,3,[x.kind,x.at_,x.size]⟩ hi3 (by show (aP ak.enc [x.kind,x.at_,x.size]).length≤_;omega)) ?_)
  rintro _ _ _ ⟨rfl,rfl,rfl⟩
  refine bST rfl ?_
  refine bV 21 rfl rfl (fM rfl rfl (by show ((((aV l.l.length++aP cT (l.l.take k))++an.enc x.name)++an.enc x.version)++bP.enc x.main).length+(aP ak.enc [x.kind,x.at_,x.size]).length≤_;simp only [List.length_append];omega)) ?_
  refine bV 22 rfl rfl (bE rfl) (BN (bp (aj (aa (aM rfl (aU rfl (aX rfl rfl (by omega)) (aA rfl (aNn ?_))))))))
  refine ⟨[0,3,4],[0],[],rfl,?_⟩
  refine ⟨k+1,⟨hk',?_⟩,by omega⟩
  rw [hst]
  rfl
 ·skip
  have hke:k=l.l.length:=by simp at h1;omega
  subst hke
  refine aT (aW (aW (aY (aj (aSR (aM rfl (aA rfl (aNn (ax (FZ1 [] Tryz.results131 rfl ?_))))))))))
  exact ⟨rfl,rfl,by rw [List.take_length]⟩
theorem xJ(y:dw):eP y=aP ak.enc [y.from_,y.size,y.to_]:=by
 show ak.enc y.from_++(ak.enc y.size++ak.enc y.to_)=_
 simp only [aP,List.map_cons,List.map_nil,List.flatten_cons,List.flatten_nil,List.append_nil]
theorem pY(l:Sl cq)(hI:∀ y∈l.l,mD y)(hl:(aV l.l.length++aP gX l.l).length≤1000000000):Con Tryz.prog 136 [l.val] [ShF cq.row l,bz cq.ok l.l] [] fun r ps hp=>ps=[]∧hp=[]∧r=.string (bytesOf (aV l.l.length++aP gX l.l)):=by
 rw [List.length_append] at hl
 refine EN1 Tryz.func136 rfl (bY (.of (aI 0 rfl)) (fun hlen=>(aSR (aA rfl (aNn (aSR (aM rfl (aU rfl (aZ Tryz.underlying38 rfl) (aU rfl (Q0 rfl (dg l.l.length hlen)) (aA rfl (aNs (aSR (aA rfl (aNn (aq ?_)))))))))))))))
 refine aQ [0,3,4] [1,0] [] (fun (k:Nat) st=>k≤l.l.length∧st=⟨[(0,true,l.val),(3,true,.string (bytesOf (aV l.l.length++aP gX (l.l.take k)))),(4,true,.int .i64 k)],[ShF cq.row l,bz cq.ok l.l],[]⟩) (fun k=>l.l.length-k) rfl (⟨0,Nat.zero_le _,by rw [List.take_zero];show _=(⟨[_,(3,true,.string (bytesOf (aV l.l.length++[]))),_],_,_⟩:Sta);rw [List.append_nil];rfl⟩) ?_
 rintro k st ⟨hk,rfl⟩
 refine ah (aSR (aM rfl (aM rfl (aU rfl (aZ Tryz.underlying38 rfl) (aU rfl (bu rfl rfl) (aNn ?_))))))
 refine ao _ rfl (fun h1 => ?_) (fun h1 => ?_)
 ·skip
  have hk':k<l.l.length:=by simpa using h1
  obtain ⟨x,hx⟩:∃ x,l.l[k]? = some x:=⟨_,List.getElem?_eq_getElem hk'⟩
  have hw:=hI x (List.mem_of_getElem? hx)
  have hen:=eQ (e:=gX) hx
  have hle:=iu (e:=gX) l.l (k+1)
  have hxe:gX x=an.enc x.obj++(an.enc x.sec++(an.enc x.from_++((aV x.pieces.l.length++aP eP x.pieces.l)++ak.enc x.code))):=by
    rw [← cH eJ fl x.pieces.l];rfl
  have ht1:=gP x.obj
  have ht2:=gP x.sec
  have ht3:=gP x.from_
  obtain ⟨S,hS⟩:∃ S,S=aV l.l.length++aP gX (l.l.take k):=⟨_,rfl⟩
  have hst:aV l.l.length++aP gX (l.l.take (k+1))=(((((S++an.enc x.obj)++an.enc x.sec)++an.enc x.from_)++aV x.pieces.l.length)++aP eP x.pieces.l)++ak.enc x.code:=by rw [hen,hxe,hS];simp only [List.append_assoc]
  have hSl:S.length+((an.enc x.obj).length+((an.enc x.sec).length+((an.enc x.from_).length+((aV x.pieces.l.length).length+((aP eP x.pieces.l).length+(ak.enc x.code).length)))))≤1000000000:=by
    rw [hen,hxe] at hle
    rw [hS]
    simp only [List.length_append] at hle ⊢
    omega
  rw [← hS]
  clear hle hl hen hxe
  refine aR _ (cq.f_pieces (Ent.all (f:=cq.ok) (.of (aI 1 rfl)) hx)) (bY (.of (aI 0 rfl)) (fun hpl=>(ar (aj (ah (aq (aSR (aM rfl (aM rfl (UI Tryz.underlying38 tk204 1 rfl rfl rfl rfl rfl (aK hx) rfl rfl (fun ⟨b5_2,o5_2⟩=>(US 0 tk204 0 rfl rfl rfl rfl rfl (LT rfl (bk (zs:=[.string .empty,.string .empty,.string .empty,.slice none 0 0,.int .i64 0]) (by kernel_rfl) rfl (fun b5_4 => ?_)))))))))))))))
  refine aHN ?_
  refine aD rfl (aF 0 tk204 rfl rfl rfl rfl (aHK ?_))
  refine aNs (DR [] 19 (VM 0 rfl rfl (VO 1 0 rfl rfl rfl (VL 2 0 tk9 rfl rfl rfl rfl rfl (bV 3 rfl rfl (Q0 rfl (ca x.obj (by omega))) ?_)))))
  refine bV 4 rfl rfl (fM rfl rfl (by show S.length+(an.enc x.obj).length≤_;omega)) ?_
  refine VO 5 1 rfl rfl rfl (VL 6 0 tk9 rfl rfl rfl rfl rfl (bV 7 rfl rfl (Q0 rfl (ca x.sec (by omega))) ?_))
  refine bV 8 rfl rfl (fM rfl rfl (by show (S++an.enc x.obj).length+(an.enc x.sec).length≤_;simp only [List.length_append];omega)) ?_
  refine VO 9 2 rfl rfl rfl (VL 10 0 tk9 rfl rfl rfl rfl rfl (bV 11 rfl rfl (Q0 rfl (ca x.from_ (by omega))) ?_))
  refine bV 12 rfl rfl (fM rfl rfl (by show ((S++an.enc x.obj)++an.enc x.sec).length+(an.enc x.from_).length≤_;simp only [List.length_append];omega)) ?_
  refine VO 13 3 rfl rfl rfl (VL 14 0 tk202 rfl rfl rfl rfl rfl (bV 15 rfl rfl (aZ Tryz.underlying202 rfl) (bV 16 rfl rfl (Q0 rfl (dg x.pieces.l.length hpl)) ?_)))
  refine bV 17 rfl rfl (fM rfl rfl (by show (((S++an.enc x.obj)++an.enc x.sec)++an.enc x.from_).length+(aV x.pieces.l.length).length≤_;simp only [List.length_append];omega)) ?_
  refine bV 18 rfl rfl (bE rfl) (BN (aj (ah (aSR (aA rfl (aNn (aq ?_)))))))
  refine aQ [0,3,4,5,6] [2,1,0] [0] (fun (j:Nat) st=>j≤x.pieces.l.length∧st=⟨[(0,true,l.val),(3,true,.string (bytesOf (((((S++an.enc x.obj)++an.enc x.sec)++an.enc x.from_)++aV x.pieces.l.length)++aP eP (x.pieces.l.take j)))),(4,true,.int .i64 k),(5,true,.pointer (some ⟨b5_4,0,none⟩)),(6,true,.int .i64 j)],[ShF dw.row x.pieces,ShF cq.row l,bz cq.ok l.l],[Box b5_4 204 x.vs]⟩) (fun j=>x.pieces.l.length-j) rfl (⟨0,Nat.zero_le _,by rw [List.take_zero];show _=(⟨[_,(3,true,.string (bytesOf (((((S++an.enc x.obj)++an.enc x.sec)++an.enc x.from_)++aV x.pieces.l.length)++[]))),_,_,_],_,_⟩:Sta);rw [List.append_nil];rfl⟩) ?_
  rintro j st ⟨hj,rfl⟩
  refine ah (aSR (aM rfl (UO 3 rfl rfl (UL 0 tk202 rfl rfl rfl rfl (aU rfl (aZ Tryz.underlying202 rfl) (aU rfl (bu rfl rfl) (aNn ?_)))))))
  refine ao _ rfl (fun h2 => ?_) (fun h2 => ?_)
  ·skip
   have hj':j<x.pieces.l.length:=by simpa using h2
   obtain ⟨y,hy⟩:∃ y,x.pieces.l[j]? = some y:=⟨_,List.getElem?_eq_getElem hj'⟩
   have hwy:=hw.1 y (List.mem_of_getElem? hy)
   have hi3:∀ z∈[y.from_,y.size,y.to_],Go.Lv.I64 z:=fun z hz=>by
     simp only [List.mem_cons,List.not_mem_nil,or_false] at hz
     rcases hz with rfl | rfl | rfl
     · exact hwy.1
     · exact hwy.2.1
     · exact hwy.2.2
   have hen:=eQ (e:=eP) hy
   have hle:=iu (e:=eP) x.pieces.l (j+1)
   rw [hen,xJ,List.length_append] at hle
   refine ar (aj (ah (aq (DR [] 23 (VM 0 rfl rfl (VO 1 3 rfl rfl rfl (VL 2 0 tk202 rfl rfl rfl rfl rfl (VM 3 rfl rfl (XI 4 Tryz.underlying202 tk209 0 rfl rfl rfl rfl rfl rfl (aK hy) rfl rfl (fun ⟨b10_4,o10_4⟩=>(VO 5 0 rfl rfl rfl (VT 6 0 tk3 0 rfl rfl rfl rfl rfl rfl (VO 7 3 rfl rfl rfl (VL 8 0 tk202 rfl rfl rfl rfl rfl (VM 9 rfl rfl ?_)))))))))))))))
   refine XI 10 Tryz.underlying202 tk209 1 rfl rfl rfl rfl rfl rfl (aK hy) rfl rfl (fun ⟨b10_10,o10_10⟩=>(VO 11 1 rfl rfl rfl (VT 12 1 tk3 0 rfl rfl rfl rfl rfl rfl (VO 13 3 rfl rfl rfl (VL 14 0 tk202 rfl rfl rfl rfl rfl (VM 15 rfl rfl (XI 16 Tryz.underlying202 tk209 2 rfl rfl rfl rfl rfl rfl (aK hy) rfl rfl (fun ⟨b10_16,o10_16⟩=>(VO 17 2 rfl rfl rfl (VT 18 2 tk3 0 rfl rfl rfl rfl rfl rfl (VB (zs:=[.int .i64 0]) 19 rfl el26 rfl rfl rfl rfl (.more rfl (.v rfl .nil) (.more rfl (.v rfl .nil) (.more rfl (.v rfl .nil) .nil))) rfl rfl (fun v10_19 => ?_))))))))))))
   refine fx (q:=true) 20 rfl (by kernel_rfl) rfl rfl (EC [6] [] rfl (bZ ⟨v10_19,3,[y.from_,y.size,y.to_]⟩ hi3 (by show (aP ak.enc [y.from_,y.size,y.to_]).length≤_;omega)) ?_)
   rintro _ _ _ ⟨rfl,rfl,rfl⟩
   refine bST rfl ?_
   refine bV 21 rfl rfl (fM rfl rfl (by show (((((S++an.enc x.obj)++an.enc x.sec)++an.enc x.from_)++aV x.pieces.l.length)++aP eP (x.pieces.l.take j)).length+(aP ak.enc [y.from_,y.size,y.to_]).length≤_;simp only [List.length_append];omega)) ?_
   refine bV 22 rfl rfl (bE rfl) (BN (bp (aj (aa (aM rfl (aU rfl (aX rfl rfl (by omega)) (aA rfl (aNn ?_))))))))
   refine ⟨[0,3,4,5,6],[2,1,0],[0],rfl,?_⟩
   refine ⟨j+1,⟨hj',?_⟩,by omega⟩
   rw [hen,xJ,← List.append_assoc]
   rfl
  ·skip
   have hje:j=x.pieces.l.length:=by simp at h2;omega
   subst hje
   rw [List.take_length]
   refine aT (aW (aW (aY (aj (aa (aM rfl (UO 4 rfl rfl (UL 0 tk3 rfl rfl rfl rfl (LT rfl (WL (zs:=[.int .i64 0]) el26 rfl rfl rfl (.more rfl (.v rfl .nil) .nil) rfl rfl (fun v11_3=>(aHN ?_))))))))))))
   refine eN 1 rfl ?_
   refine LT rfl (EC [3] [] rfl (bZ ⟨v11_3,1,[x.code]⟩ (fun z hz=>by rw [List.mem_singleton.1 hz];exact hw.2) (by show (ak.enc x.code++[]).length≤_;rw [List.append_nil];omega)) ?_)
   rintro _ _ _ ⟨rfl,rfl,rfl⟩
   refine aST ?_
   refine aU rfl (fM rfl rfl (by show ((((((S++an.enc x.obj)++an.enc x.sec)++an.enc x.from_)++aV x.pieces.l.length)++aP eP x.pieces.l)).length+(ak.enc x.code++[]).length≤_;simp only [List.length_append,List.length_nil];omega)) ?_
   refine aA rfl (bj (bp (aj (aa (aM rfl (aU rfl (aX rfl rfl (by omega)) (aA rfl (aNn ?_))))))))
   refine ⟨[0,3,4],[1,0],[],rfl,?_⟩
   refine ⟨k+1,⟨hk',?_⟩,by omega⟩
   rw [hst]
   show _=(⟨[_,(3,true,.string (bytesOf ((((((S++an.enc x.obj)++an.enc x.sec)++an.enc x.from_)++aV x.pieces.l.length)++aP eP x.pieces.l)++ak.enc x.code))),_],_,_⟩:Sta)
   rw [← List.append_nil (ak.enc x.code)]
   rfl
 ·skip
  have hke:k=l.l.length:=by simp at h1;omega
  subst hke
  refine aT (aW (aW (aY (aj (aSR (aM rfl (aA rfl (aNn (ax (FZ1 [] Tryz.results136 rfl ?_))))))))))
  exact ⟨rfl,rfl,by rw [List.take_length]⟩
end Go.Proofs.YtfkcmbonmpcbfaaGreat

