/- Parts of the proof, in build order. No condition. -/
import Derived.Test.YtgkbbdgklpabpaaGreatDoorSc23
import Derived.Test.YtgkbbdgklpabpaaGreatDoorSc07
import Derived.Test.YtgkbbdgklpabpaaGreatDoorSc05
import Derived.Test.YtgkbbdgklpabpaaGreatDoorSc09
import Derived.Test.YtgkbbdgklpabpaaGreatDoorSc22
import Derived.Test.YtgkbbdgklpabpaaGreatDoorSc13
set_option linter.unusedSimpArgs false
set_option linter.unusedVariables false
set_option maxHeartbeats 20000000
set_option maxRecDepth 20000
namespace Go.Proofs.YtgkbbdgklpabpaaGreatDoor
open Go.RowKit Go.Lp Go.Sy
open Go.Proofs.Tryz
attribute [local irreducible] aL aB awp aC fwp Quiet
theorem gnd{a b:Bool}(h:(true && ((a || b) == false))=true):(true && (a == false))=true∧b=false:=by cases a<;>cases b<;>simp_all
theorem nbt{b:Bool}(h:(!b)=false):b=true:=by simpa using h
theorem r9(u:aJ):Con Tryz.prog 31 [u.val] [u.ok,bC] [] (YB True):=by
 refine EN1 Tryz.func31 rfl (aO (aJ.f_nodes (.of (ax 0 rfl))) (fun hlen=>(aO (aJ.f_offers (.of (ax 0 rfl))) (fun hlen2=>(aSR (LT rfl (aS rfl rfl rfl (fun b0_0=>(aHN ?_)))))))))
 refine go 4 [0] ?_
 refine aZ 0 rfl rfl ?_
 show awp _ _ _ _ ⟨_,At _ 0 _::_,_⟩
 refine go 3 [0,4,193,139,0] ?_
 refine aF [1,8,9,10] [2,1,0] [] (fun (k:Nat) st=>k≤u.offers.l.length∧st=⟨[(1,true,.pointer (some ⟨b0_0,0,none⟩)),(8,true,u.offers.val),(9,true,.int .i64 u.offers.l.length),(10,true,.int .i64 k)],[At b0_0 0 u.row,u.ok,bC],[]⟩) (fun k=>u.offers.l.length-k) rfl (⟨0,Nat.zero_le _,rfl⟩) ?_
 rintro k st ⟨hk,rfl⟩
 refine go 3 [0] ?_
 refine aa _ rfl (fun h1 => ?_) (fun h1 => ?_)
 ·skip
  have hk':k<u.offers.l.length:=by simpa using h1
  obtain ⟨y,hy⟩:∃ y,u.offers.l[k]? = some y:=⟨_,List.getElem?_eq_getElem hk'⟩
  refine go 0 [0] ?_
  refine bI true rfl rfl (fun _=>ai Tryz.underlying24 tk139 rfl ((aJ.f_offers (.of (ax 1 rfl)))) rfl (ak hy) rfl rfl) (fun h=>absurd h (by decide)) (fun ⟨b3_1,o3_1⟩=>(go 0 [19970] ?_))
  refine LT rfl (aW (zs:=[.string .empty,.string .empty,.bool false,.int .i64 0,.int .i64 0,.int .i64 0,.int .i64 0]) (by kernel_rfl) rfl (fun b3_3=>(aHN ?_)))
  refine go 4 [0,19968] ?_
  refine cL (dX.f_name (Ent.all (aJ.f_offersA (.of (ax 2 rfl))) hy)) (fun hnl=>(cL (dX.f_version (Ent.all (aJ.f_offersA (.of (ax 2 rfl))) hy)) (fun hvl=>(DR [] 51 (go 0 [0,0] ?_)))))
  refine cQ (caps:=[]) 2 rfl (by kernel_rfl) [0] (false) (by kernel_rfl) true rfl rfl (fun _=>rfl) (fun hc=>rfl) (fun hc=>by rw [List.append_nil];exact eS _ hnl) (fun c1 hc1 => ?_)
  refine go 0 [0,0,2,0,0,0,2,0] ?_
  refine cQ (caps:=[]) 11 rfl (by kernel_rfl) [0] (false) (by kernel_rfl) _ rfl rfl (fun _=>rfl) (fun hc=>(ao (ah rfl hc) rfl)) (fun hc=>by rw [List.append_nil];exact eS _ hvl) (fun c2 hc2 => ?_)
  refine go 0 [0,0,0,0,2,0,0,0,4,0,0,0,0,0,82952,8,0,10,0,12,0] ?_
  refine bW 33 rfl rfl rfl (fun hc=>bP (l:=[(1,.tmp 43),(2,.tmp 45),(3,.tmp 47)]) (zs:=[.int .i64 0,.int .i64 0,.int .i64 0,.int .i64 0]) (pl:=[(0,1),(1,1),(2,1),(3,1)]) (by kernel_rfl) (by kernel_rfl) (by kernel_rfl) rfl (ao (ah rfl hc) (ao (ah rfl hc) (ao (ah rfl hc) rfl))) rfl) ?_
  refine cQ (caps:=[]) 34 rfl (by kernel_rfl) [1] (false) (by kernel_rfl) _ rfl rfl (fun _=>rfl) (fun hc=>(ao (ah rfl hc) (ao (ah rfl hc) rfl))) (fun hc=>by rw [List.append_nil];exact ga u ⟨0,y.node,y.off,y.size⟩) (fun c3 hc3 => ?_)
  refine go 0 [0,0,0,6,0,0,4,200,8,0] ?_
  refine dz 45 rfl (by kernel_rfl) _ rfl rfl (fun hc=>ai Tryz.underlying22 tk52 (ah rfl hc) ((aJ.f_nodes (.of (ax 2 rfl)))) (ah rfl hc) (bN (i:=y.node) ((hc3 (gnd hc).1 (nbt (gnd hc).2)).node rfl).1.2 ((hc3 (gnd hc).1 (nbt (gnd hc).2)).node rfl).1.1) ((Int.toNat_of_nonneg ((hc3 (gnd hc).1 (nbt (gnd hc).2)).node rfl).1.1).symm) rfl) (fun _=>⟨(0,0)⟩) (fun ⟨b4_45,o4_45⟩=>(go 0 [4,196] ?_))
  refine bW 48 rfl rfl rfl (fun hc=>Q0 (ao (ah rfl hc) rfl) (iY _)) (go 2 [0,0] ?_)
  refine aa _ rfl (fun h2 => ?_) (fun h2 => ?_)
  ·skip
   refine go 2 [0] ?_
   refine ae (aj (aK (aj (aj (aK (aj (FZ1 [] Tryz.results31 rfl ?_)))))))
   exact ⟨⟨rfl,rfl⟩,_,rfl,fun _=>trivial⟩
  ·skip
   refine go 2 [0,0] ?_
   refine aa _ rfl (fun h3 => ?_) (fun h3 => ?_)
   ·skip
    have hz:=bA (l:=u.offers.l) (i:=k-1) (by omega)
    have hk0:0<k:=by simp at h3;omega
    refine go 0 [0,4,199,0,0] ?_
    refine bI true rfl rfl (fun _=>ai Tryz.underlying24 tk139 rfl ((aJ.f_offers (.of (ax 3 rfl)))) rfl (ak hz) (by omega) rfl) (fun h=>absurd h (by decide)) (fun ⟨b7_5,o7_5⟩=>(go 0 [19970] ?_))
    refine LT rfl (aW (zs:=[.string .empty,.string .empty,.bool false,.int .i64 0,.int .i64 0,.int .i64 0,.int .i64 0]) (by kernel_rfl) rfl (fun b7_7=>(aHN ?_)))
    refine go 0 [19971,0,3,0,0] ?_
    refine aU rfl (zI rfl rfl) (go 0 [0,0,3,0,0,0,0,1,3,1,0] ?_)
    refine aG rfl rfl (fun hc=>zH (ah rfl hc) (ah rfl hc)) (go 2 [0,0] ?_)
    refine aa _ rfl (fun h4 => ?_) (fun h4 => ?_)
    ·skip
     refine go 2 [0] ?_
     refine ae (aK (aj (aj (aK (aj (FZ1 [] Tryz.results31 rfl ?_))))))
     exact ⟨⟨rfl,rfl⟩,_,rfl,fun _=>trivial⟩
    ·skip
     refine go 1 [0,0] ?_
     refine an ?_
     refine ⟨[1,8,9,10],[2,1,0],[],rfl,?_⟩
     exact ⟨k+1,⟨by omega,rfl⟩,by omega⟩
   ·skip
    refine go 1 [0,0] ?_
    refine an ?_
    refine ⟨[1,8,9,10],[2,1,0],[],rfl,?_⟩
    exact ⟨k+1,⟨by omega,rfl⟩,by omega⟩
 ·skip
  refine go 2 [0] ?_
  refine ae (FZ1 [] Tryz.results31 rfl ?_)
  exact ⟨⟨rfl,rfl⟩,_,rfl,fun _=>trivial⟩
theorem la(u:aJ)(t:bY):Con Tryz.prog 80 [u.val,t.val] [u.ok] [] (YB True):=by
 refine EN2 Tryz.func80 rfl (aSR (LT rfl (aS rfl rfl rfl (fun b0_0=>(aHN ?_)))))
 refine LT rfl (aS rfl rfl rfl (fun b0_1=>(aHN ?_)))
 refine go 0 [0,0,3,0,0,41472,10755] ?_
 refine aE (caps:=[]) [0] (false) (by kernel_rfl) _ rfl rfl (fun _=>rfl) (fun hc=>(ao (ah rfl hc) (ao (ah rfl hc) rfl))) (fun hc=>by rw [List.append_nil];exact ga u t) (fun c1 hc1 => ?_)
 refine go 2 [0,0] ?_
 refine aa _ rfl (fun h1 => ?_) (fun h1 => ?_)
 ·skip
  refine go 2 [0] ?_
  refine ae (aj (FZ1 [] Tryz.results80 rfl ?_))
  exact ⟨⟨rfl,rfl⟩,_,rfl,fun _=>trivial⟩
 ·skip
  have hn:(0≤t.n∧t.n<u.nodes.l.length):=by
    simp only [Bool.or_eq_false_iff,Bool.not_eq_false',decide_eq_true_eq] at h1
    exact ((hc1 (by simp [h1.1]) h1.2).node h1.1).1
  refine go 0 [0,2,0,1,3] ?_
  refine bI true rfl rfl (fun _=>ai Tryz.underlying22 tk52 rfl ((aJ.f_nodes (.of (ax 0 rfl)))) rfl (bN (i:=t.n) hn.2 hn.1) (by omega) rfl) (fun h=>absurd h (by decide)) (fun ⟨b3_5,o3_5⟩=>(go 0 [35330] ?_))
  refine LT rfl (aW (zs:=[.string .empty,.string .empty,.int .i64 0,.int .i64 0,.int .i64 0,.string .empty,.slice none 0 0,.slice none 0 0,.slice none 0 0,.slice none 0 0,.slice none 0 0,.slice none 0 0]) (by kernel_rfl) rfl (fun b3_7=>(aHN ?_)))
  refine go 0 [35334,2,6,0,0,2,3] ?_
  refine aG rfl rfl (fun hc=>ee (ah rfl hc) rfl (by decide)) (go 2 [0,0,0] ?_)
  refine ae (FZ1 [] Tryz.results80 rfl ?_)
  exact ⟨⟨rfl,rfl⟩,_,rfl,fun _=>trivial⟩
theorem lP(b:Nat)(u:aJ)(t:bY):Con Tryz.prog 79 [t.val,.pointer (some ⟨b,0,none⟩)] [At b 0 u.row,u.ok] [] (YN Value.bool fun _=>True):=by
 refine EN2 Tryz.func79 rfl (aSR (LT rfl (aS rfl rfl rfl (fun b0_0=>(aHN ?_)))))
 refine go 0 [0,41473,10752] ?_
 refine aE (caps:=[]) [0] (false) (by kernel_rfl) true rfl rfl (fun _=>rfl) (fun hc=>rfl) (fun hc=>by rw [List.append_nil];exact la u t) (fun c1 hc1 => ?_)
 refine go 2 [0,0] ?_
 refine ae (FZ1 [] Tryz.results79 rfl ?_)
 exact ⟨⟨rfl,rfl⟩,_,rfl,trivial⟩
theorem uf(u:aJ):Con Tryz.prog 32 [u.val] [u.ok] [] (YB True):=by
 refine EN1 Tryz.func32 rfl (aSR (LT rfl (aS rfl rfl rfl (fun b0_0=>(aHN ?_)))))
 refine go 3 [0] ?_
 refine aZ 0 rfl rfl ?_
 show awp _ _ _ _ ⟨_,At _ 0 _::_,_⟩
 refine az (aU rfl (cA (l:=[.tmp 1]) rfl) (go 0 [0,0,5,241,0] ?_))
 refine aE (caps:=[]) [0,1] (false) (by kernel_rfl) true rfl rfl (fun _=>rfl) (fun hc=>rfl) (fun hc=>by rw [List.append_nil];exact (ij u.inits 79 [.pointer (some ⟨b0_0,0,none⟩)] (At b0_0 0 u.row) u.ok (fun _ _=>True) (by kernel_rfl) (fun t _=>lP b0_0 u t)).pre (jm (aJ.f_inits (.of (ax 0 rfl))) (.of (ax 1 rfl)) (.of (ax 0 rfl)))) (fun c1 hc1 => ?_)
 refine go 0 [0,0,6,289,0] ?_
 refine aE (caps:=[]) [0,1] (false) (by kernel_rfl) _ rfl rfl (fun _=>rfl) (fun hc=>(ao (ah rfl hc) (ao (ah rfl hc) rfl))) (fun hc=>by rw [List.append_nil];exact (ij u.lasts 79 [.pointer (some ⟨b0_0,0,none⟩)] (At b0_0 0 u.row) u.ok (fun _ _=>True) (by kernel_rfl) (fun t _=>lP b0_0 u t)).pre (jm (aJ.f_lasts (.of (ax 0 rfl))) (.of (ax 1 rfl)) (.of (ax 0 rfl)))) (fun c2 hc2 => ?_)
 refine go 2 [0] ?_
 refine aa _ rfl (fun h1 => ?_) (fun h1 => ?_)
 ·skip
  refine go 2 [0] ?_
  refine ae (aj (FZ1 [] Tryz.results32 rfl ?_))
  exact ⟨⟨rfl,rfl⟩,_,rfl,fun _=>trivial⟩
 ·skip
  refine go 2 [0,1,49] ?_
  refine aa _ rfl (fun h2 => ?_) (fun h2 => ?_)
  ·skip
   refine go 0 [0,8,11137] ?_
   refine aU rfl (bP (l:=[(0,.const (.int .i64 2))]) (zs:=[.int .i64 0,.int .i64 0,.int .i64 0,.int .i64 0]) (pl:=[(0,1),(1,1),(2,1),(3,1)]) (by kernel_rfl) (by kernel_rfl) (by kernel_rfl) rfl rfl rfl) (aU rfl (lC (by kernel_rfl) (by kernel_rfl) (by kernel_rfl) (fun w=>ew 9997 _ _ _ [0,1,2,3] w (by kernel_rfl) (by kernel_rfl) rfl rfl) rfl rfl) (go 2 [0] ?_))
   refine ae (aj (FZ1 [] Tryz.results32 rfl ?_))
   exact ⟨⟨rfl,rfl⟩,_,rfl,fun _=>trivial⟩
  ·skip
   refine go 0 [41473,0,8,11137] ?_
   refine aE (caps:=[]) [0] (false) (by kernel_rfl) true rfl rfl (fun _=>rfl) (fun hc=>rfl) (fun hc=>by rw [List.append_nil];exact la u u.entry) (fun c3 hc3 => ?_)
   refine go 2 [0] ?_
   refine ae (FZ1 [] Tryz.results32 rfl ?_)
   exact ⟨⟨rfl,rfl⟩,_,rfl,fun _=>trivial⟩
def acn(c:dO):bp:=⟨0,c.from_,c.pieces,-1⟩
theorem okC{o:aI}{C:Sl bp}{ps:List Per}(h:Ent ps o.ok)(h1:Ent ps (ShF bp.row C))(h2:Ent ps (bu bp.ok C.l)):Ent ps ({ o with converts:=C } : aI).ok :=
 fun w S hp=>by
 obtain ⟨a1,a2,a3,a4,a5,a6,a7,a8,a9,b1,b2,b3,b4,b5,b6,b7,_,_⟩:=h w S hp
 exact ⟨a1,a2,a3,a4,a5,a6,a7,a8,a9,b1,b2,b3,b4,b5,b6,b7,h1 w S hp,h2 w S hp⟩
theorem aaO{o:aI}{x:aQ}{C:Sl bp}(ho:xU x o)(h:x.inlines.l.length≤100000000):xT { o with converts:=C } :=
 ⟨by show o.secs.l.length≤_;rw [ho.secs];exact Nat.le_of_ble_eq_true rfl,by show o.groups.l.length≤_;rw [ho.groups];exact Nat.zero_le _,by show o.inlines.l.length≤_;rw [ho.inl];exact h⟩
theorem qT(u:aJ)(h:SzU u):Con Tryz.prog 33 [u.val] [u.ok,bC] [] (YB (∀ c∈u.changes.l,0≤c.node∧c.node<u.nodes.l.length)):=by
 refine EN1 Tryz.func33 rfl (aO (aJ.f_nodes (.of (ax 0 rfl))) (fun hlen=>(aO (aJ.f_changes (.of (ax 0 rfl))) (fun hlen2=>(aSR (LT rfl (aS rfl rfl rfl (fun b0_0=>(aHN ?_)))))))))
 refine go 4 [0] ?_
 refine aZ 0 rfl rfl ?_
 show awp _ _ _ _ ⟨_,At _ 0 _::_,_⟩
 refine go 3 [0,13,625,144,0] ?_
 refine aF [1,9,10,11] [2,1,0] [] (fun (k:Nat) st=>(k≤u.changes.l.length∧∀ c∈u.changes.l.take k,0≤c.node∧c.node<u.nodes.l.length)∧st=⟨[(1,true,.pointer (some ⟨b0_0,0,none⟩)),(9,true,u.changes.val),(10,true,.int .i64 u.changes.l.length),(11,true,.int .i64 k)],[At b0_0 0 u.row,u.ok,bC],[]⟩) (fun k=>u.changes.l.length-k) rfl (⟨0,⟨Nat.zero_le _,fun c hc=>by cases hc⟩,rfl⟩) ?_
 rintro k st ⟨⟨hk,hall⟩,rfl⟩
 refine go 3 [0] ?_
 refine aa _ rfl (fun h1 => ?_) (fun h1 => ?_)
 ·skip
  have hk':k<u.changes.l.length:=by simpa using h1
  obtain ⟨c,hy⟩:∃ c,u.changes.l[k]? = some c:=⟨_,List.getElem?_eq_getElem hk'⟩
  refine go 0 [0] ?_
  refine bI true rfl rfl (fun _=>ai Tryz.underlying30 tk144 rfl ((aJ.f_changes (.of (ax 1 rfl)))) rfl (ak hy) rfl rfl) (fun h=>absurd h (by decide)) (fun ⟨b3_1,o3_1⟩=>(go 0 [19970] ?_))
  refine LT rfl (aW (zs:=[.int .i64 0,.string .empty,.slice none 0 0,.int .i64 0,.int .i64 0,.int .i64 0,.int .i64 0]) (by kernel_rfl) rfl (fun b3_3=>(aHN ?_)))
  refine go 0 [0,19968,0,0,0,0,0,0,0,2,100,52,0,0,0,3,10752] ?_
  refine aG rfl rfl (fun hc=>bP (l:=[(0,.const (.int .i64 2))]) (zs:=[.int .i64 0,.int .i64 0,.int .i64 0,.int .i64 0]) (pl:=[(0,1),(1,1),(2,1),(3,1)]) (by kernel_rfl) (by kernel_rfl) (by kernel_rfl) rfl rfl rfl) (aG rfl rfl (fun hc=>abP (by kernel_rfl) (by kernel_rfl) (by kernel_rfl) (fun w=>ew 9997 _ _ _ [0,1,2,3] w (by kernel_rfl) (by kernel_rfl) rfl rfl) (ah rfl hc) (ah rfl hc)) (go 0 [0,41476,3,10752] ?_))
  refine aE (caps:=[]) [1] (false) (by kernel_rfl) _ rfl rfl (fun _=>rfl) (fun hc=>(ao (ah rfl hc) (ao (ah rfl hc) rfl))) (fun hc=>by rw [List.append_nil];exact la u c.code) (fun c1 hc1 => ?_)
  refine go 2 [0,0,0] ?_
  refine aa _ rfl (fun h2 => ?_) (fun h2 => ?_)
  ·skip
   refine go 2 [0] ?_
   refine ae (aj (aK (aj (aj (aK (aj (FZ1 [] Tryz.results33 rfl ?_)))))))
   exact ⟨⟨rfl,rfl⟩,_,rfl,fun h=>by cases h⟩
  ·skip
   have hn:0≤c.node∧c.node<u.nodes.l.length:=by
     simp only [Bool.or_eq_false_iff,decide_eq_false_iff_not] at h2;omega
   have hm:=cS (l:=u.nodes.l) (i:=c.node) hn.2 hn.1
   have hsz:=h.node _ (List.mem_of_getElem? hm)
   refine go 0 [0,2,100,0,0] ?_
   refine bI true rfl rfl (fun _=>ai Tryz.underlying22 tk52 rfl ((aJ.f_nodes (.of (ax 2 rfl)))) rfl (bN (i:=c.node) hn.2 hn.1) (by omega) rfl) (fun h=>absurd h (by decide)) (fun ⟨b6_5,o6_5⟩=>(go 0 [35330] ?_))
   refine LT rfl (EC [1] [] rfl ((lQ (elt u.nodes.l c.node) hsz.1 hsz.2.1).pre (y4 (Ent.all (aJ.f_nodesA (.of (ax 0 rfl))) hm))) ?_)
   rintro _ _ _ ⟨rfl,o,⟨rfl,rfl⟩,ho⟩
   refine aST ?_
   refine LT rfl (aW (zs:=[.string .empty,.slice none 0 0,.slice none 0 0,.slice none 0 0,.slice none 0 0,.slice none 0 0,.slice none 0 0,.slice none 0 0,.slice none 0 0,.slice none 0 0,.slice none 0 0]) (by kernel_rfl) rfl (fun b6_8=>(aHN ?_)))
   refine go 0 [32259,1,0,2,0] ?_
   refine aU rfl (bP (l:=[(1,.tmp 50),(2,.tmp 52),(3,.const (.int .i64 (-1)))]) (zs:=[.int .i64 0,.string .empty,.slice none 0 0,.int .i64 0]) (pl:=[(0,1),(1,1),(2,1),(3,1)]) (by kernel_rfl) (by kernel_rfl) (by kernel_rfl) rfl rfl rfl) (eK (zs:=[.int .i64 0,.string .empty,.slice none 0 0,.int .i64 0]) (l:=[(0,.tmp 53)]) el124 (by kernel_rfl) (by decide) (by decide) (by decide) rfl _ rfl (fun hc=>rfl) rfl (.more rfl (.v rfl (.v rfl (.v rfl (.v rfl .nil)))) .nil) rfl rfl (fun v7_5=>(go 0 [10,3,32259] ?_)))
   refine aE (caps:=[]) [6,5,0,1] (false) (by kernel_rfl) true rfl rfl (fun _=>rfl) (fun hc=>rfl) (fun hc=>by rw [List.append_nil];exact (jA { o with converts:=⟨v7_5,1,[acn c]⟩ } (aaO ho hsz.2.2)).pre (ej (.of (ax 2 rfl)) (okC (.of (ax 1 rfl)) (.yes (.of (ax 0 rfl)) rfl) (y0 (f:=bp.ok) (x:=acn c) (show Ent _ (dO.ok c) from Ent.all (f:=dO.ok) (aJ.f_changesA (.of (ax 3 rfl))) hy))))) (fun c2 hc2 => ?_)
   refine go 2 [0] ?_
   refine aa _ rfl (fun h3 => ?_) (fun h3 => ?_)
   ·skip
    refine go 2 [0] ?_
    refine ae (aj (aK (aj (aj (aK (aj (FZ1 [] Tryz.results33 rfl ?_)))))))
    exact ⟨⟨rfl,rfl⟩,_,rfl,fun h=>by cases h⟩
   ·skip
    refine go 2 [0,0] ?_
    refine aa _ rfl (fun h4 => ?_) (fun h4 => ?_)
    ·skip
     have hz:=bA (l:=u.changes.l) (i:=k-1) (by omega)
     have hk0:0<k:=by simp at h4;omega
     refine go 0 [0,13,637,0,0] ?_
     refine bI true rfl rfl (fun _=>ai Tryz.underlying30 tk144 rfl ((aJ.f_changes (.of (ax 5 rfl)))) rfl (ak hz) (by omega) rfl) (fun h=>absurd h (by decide)) (fun ⟨b11_5,o11_5⟩=>(go 0 [19970] ?_))
     refine LT rfl (aW (zs:=[.int .i64 0,.string .empty,.slice none 0 0,.int .i64 0,.int .i64 0,.int .i64 0,.int .i64 0]) (by kernel_rfl) rfl (fun b11_7=>(aHN ?_)))
     refine go 0 [19974,0,6,0,0,0,0,0,6,0,0,0,0,1,6,1,0] ?_
     refine aG rfl rfl (fun hc=>zH (ah rfl hc) (ah rfl hc)) (go 2 [0,0] ?_)
     refine aa _ rfl (fun h5 => ?_) (fun h5 => ?_)
     ·skip
      refine go 2 [0] ?_
      refine ae (aK (aj (aj (aK (aj (FZ1 [] Tryz.results33 rfl ?_))))))
      exact ⟨⟨rfl,rfl⟩,_,rfl,fun h=>by cases h⟩
     ·skip
      refine go 1 [0,0] ?_
      refine an ?_
      refine ⟨[1,9,10,11],[2,1,0],[],rfl,?_⟩
      refine ⟨k+1,⟨⟨hk',fun d hd => ?_⟩,rfl⟩,by omega⟩
      rw [List.take_add_one,hy] at hd
      rcases List.mem_append.1 hd with hd | hd
      · exact hall d hd
      · rw [List.mem_singleton.1 hd];exact hn
    ·skip
     refine go 1 [0,0] ?_
     refine an ?_
     refine ⟨[1,9,10,11],[2,1,0],[],rfl,?_⟩
     refine ⟨k+1,⟨⟨hk',fun d hd => ?_⟩,rfl⟩,by omega⟩
     rw [List.take_add_one,hy] at hd
     rcases List.mem_append.1 hd with hd | hd
     · exact hall d hd
     · rw [List.mem_singleton.1 hd];exact hn
 ·skip
  refine go 2 [0] ?_
  refine ae (FZ1 [] Tryz.results33 rfl ?_)
  refine ⟨⟨rfl,rfl⟩,_,rfl,fun _ => ?_⟩
  rw [List.take_of_length_le (by simpa using h1)] at hall;exact hall
structure iy (u:aJ):Prop where
 keys:(u.nodes.l.map mj).Nodup
 nodes:∀ x∈u.nodes.l,vT u x
 imps:(u.imports.l.map mi).Nodup
 chg:∀ c∈u.changes.l,0≤c.node∧c.node<u.nodes.l.length
def UrK(u:aJ)(k:Nat):Prop:=match k with
 | 1=>(u.nodes.l.map mj).Nodup
 | 2=>∀ x∈u.nodes.l,vT u x
 | 3=>(u.imports.l.map mi).Nodup
 | 6=>∀ c∈u.changes.l,0≤c.node∧c.node<u.nodes.l.length
 | _=>True
abbrev ab7:List FuncId:=[27,28,29,30,31,32,33]
theorem acW(u:aJ)(h:SzU u):∀ k:Nat,k<7→∃ f,ab7[k]? = some f∧aX Tryz.prog f=true∧Con Tryz.prog f [u.val] [u.ok,bC,dR] [] (YN Value.bool fun b=>b=true→UrK u k):=by
 have up:∀ {f:FuncId} {Φ:Prop},Con Tryz.prog f [u.val] [u.ok,bC] [] (YB Φ)→Con Tryz.prog f [u.val] [u.ok,bC,dR] [] (YN Value.bool fun b=>b=true→Φ):=fun h=>h.pre (ej (.of (ax 0 rfl)) (.of (ax 1 rfl)))
 intro k hk
 rcases (by omega:k=0∨k=1∨k=2∨k=3∨k=4∨k=5∨k=6) with rfl | rfl | rfl | rfl | rfl | rfl | rfl
 · exact ⟨_,rfl,by kernel_rfl,up (wS u)⟩
 · exact ⟨_,rfl,by kernel_rfl,up (wT u)⟩
 · exact ⟨_,rfl,by kernel_rfl,uj u h⟩
 · exact ⟨_,rfl,by kernel_rfl,up (qU u)⟩
 · exact ⟨_,rfl,by kernel_rfl,up (r9 u)⟩
 · exact ⟨_,rfl,by kernel_rfl,(uf u).pre (y4 (.of (ax 0 rfl)))⟩
 · exact ⟨_,rfl,by kernel_rfl,up (qT u h)⟩
theorem uk(u:aJ)(h:SzU u):Con Tryz.prog 15 [u.val] [u.ok,bC,dR] [] (YB (iy u)):=by
 refine EN1 Tryz.func15 rfl (aSR (LT rfl (aS rfl rfl rfl (fun b0_0=>(aHN ?_)))))
 refine go 0 [0,41472] ?_
 refine aU rfl (bP (l:=[(0,.tmp 6)]) (zs:=[.string .empty,.bool false,.slice none 0 0,.slice none 0 0,.slice none 0 0,.slice none 0 0,.slice none 0 0,.slice none 0 0,.int .i64 0,.int .i64 0,.int .i64 0,.int .i64 0,.slice none 0 0,.slice none 0 0]) (pl:=[(0,14)]) (by kernel_rfl) (by kernel_rfl) (by kernel_rfl) rfl rfl rfl) (LT rfl (aW (zs:=[.string .empty,.bool false,.slice none 0 0,.slice none 0 0,.slice none 0 0,.slice none 0 0,.slice none 0 0,.slice none 0 0,.int .i64 0,.int .i64 0,.int .i64 0,.int .i64 0,.slice none 0 0,.slice none 0 0]) (by kernel_rfl) rfl (fun b1_2=>(aHN ?_))))
 refine go 0 [41475,41475] ?_
 refine aU rfl (dZ (l:=[.tmp 8]) rfl) (go 0 [41475] ?_)
 refine aU rfl (dZ (l:=[.tmp 10]) rfl) (go 0 [41475] ?_)
 refine aU rfl (dZ (l:=[.tmp 12]) rfl) (go 0 [41475] ?_)
 refine aU rfl (dZ (l:=[.tmp 14]) rfl) (go 0 [41475] ?_)
 refine aU rfl (dZ (l:=[.tmp 16]) rfl) (go 0 [41475] ?_)
 refine aU rfl (dZ (l:=[.tmp 18]) rfl) (go 0 [41475] ?_)
 refine aU rfl (dZ (l:=[.tmp 20]) rfl) (LT rfl (WL (zs:=[.nilFunc]) el76 rfl rfl rfl (.more rfl (.v rfl .nil) (.more rfl (.v rfl .nil) (.more rfl (.v rfl .nil) (.more rfl (.v rfl .nil) (.more rfl (.v rfl .nil) (.more rfl (.v rfl .nil) (.more rfl (.v rfl .nil) .nil))))))) rfl rfl (fun v2_14=>(aHN ?_))))
 refine aU rfl (dQ 2 Tryz.underlying76 rfl rfl) (go 3 [0] ?_)
 refine aF [22,23,24] [2,1,0] [2] (fun (k:Nat) s=>(k≤7∧∀ j,j<k→UrK u j)∧s=⟨[(22,true,.slice v2_14 7 7),(23,true,.int .i64 (7:Nat)),(24,true,.int .i64 k)],[u.ok,bC,dR],[aP (.slice v2_14 7 7) 37 1 (ab7.map fun f=>[.v (.func (.func f) #[u.val] #[])])]⟩) (fun k=>7-k) rfl (⟨0,⟨Nat.zero_le _,fun j h=>by omega⟩,rfl⟩) ?_
 rintro k s ⟨⟨hk,hR⟩,rfl⟩
 refine go 3 [0] ?_
 refine aa _ rfl (fun h1 => ?_) (fun h1 => ?_)
 ·skip
  have hk':k<7:=by simp at h1;omega
  obtain ⟨f,hfk,hfo,hfc⟩:=acW u h k hk'
  have hrow:(ab7.map fun f=>[D.v (.func (.func f) #[u.val] #[])])[k]? = some [.v (.func (.func f) #[u.val] #[])]:=by rw [List.getElem?_map,hfk];rfl
  refine aD (an (aq (aH (aSR (aU rfl (bK 0 k el76 rfl rfl rfl rfl hk') (aU rfl (bl 0 k 0 tk37 rfl rfl hrow rfl rfl) (go 0 [0,0] ?_)))))))
  refine rA (fst:=[u.val]) [2,1,0] hfo rfl rfl rfl hfc (fun c1 hc1=>(go 2 [0] ?_))
  refine aa _ rfl (fun h2 => ?_) (fun h2 => ?_)
  ·skip
   refine go 2 [0] ?_
   refine ae (aK (aj (aj (aK (aj (FZ1 [] Tryz.results15 rfl ?_))))))
   exact ⟨⟨rfl,rfl⟩,_,rfl,fun h=>by cases h⟩
  ·skip
   refine go 1 [0,0] ?_
   refine an ?_
   refine ⟨[22,23,24],[2,1,0],[0],rfl,?_⟩
   refine ⟨k+1,⟨⟨by omega,fun j hj => ?_⟩,rfl⟩,by omega⟩
   by_cases hjk:j=k
   · subst hjk;exact hc1 (by simpa using h2)
   · exact hR j (by omega)
 ·skip
  refine go 2 [0] ?_
  refine ae (FZ1 [] Tryz.results15 rfl ?_)
  have hk10:k=7:=by simp at h1;omega
  subst hk10
  exact ⟨⟨rfl,rfl⟩,_,rfl,fun _=>⟨hR 1 (by omega),hR 2 (by omega),hR 3 (by omega),hR 6 (by omega)⟩⟩
theorem fI{P:Program}{n:Fr}{env:Env}{ps:List Per}{hp:List Res}{c:Code}{Q:Exit→Sta→Prop}{p:Per}(h:Ent ps p)(k:awp P n c Q ⟨env,p::ps,hp⟩):awp P n c Q ⟨env,ps,hp⟩ :=
 vh (α:=Unit) (f:=fun _=>p) (fun w S hs=>⟨(),h w S hs⟩) fun _=>k
theorem vH(l:aN){K:Nat}(h:K<4):rdD false 1 [.v (.int .i64 0),.v (.int .i64 l.code),.v (.int .i64 l.data),.v (.int .i64 l.zero)] (K*1)=some (.int .i64 (elt (iD l) (K:Int))) :=
 match K,h with
 | 0,_=>rfl
 | 1,_=>rfl
 | 2,_=>rfl
 | 3,_=>rfl
structure LyI (l:aN):Prop where
 nodes:∀ z∈l.nodes.l,I64 z
 slots:∀ z∈l.slots.l,I64 z
 stubs:∀ s∈l.stubs.l,I64 s.at_
 nst:l.stubs.l.length≤100000000
theorem tS(u:aJ)(l:aN)(hu:iy u)(hs:SzU u)(hl:LyI l):Con Tryz.prog 16 [u.val,l.val] [u.ok,l.ok] [] fun r _ _=>r=.bool (prB u l):=by
 have hN:=hs.nodes
 have hI:=hs.imports
 have hT:=hl.nst
 have hzi:(u.nodes.l.zip l.nodes.l).length≤u.nodes.l.length:=by rw [List.length_zip];omega
 refine EN2 Tryz.func16 rfl (aO (aJ.f_nodes (.of (ax 0 rfl))) (fun hlen=>(aSR (LT rfl (aS rfl rfl rfl (fun b0_0=>(aHN ?_)))))))
 refine LT rfl (aS rfl rfl rfl (fun b0_1=>(aHN ?_)))
 refine aA rfl (aNs (aSR (UL 0 tk32 rfl rfl rfl rfl (UL 1 tk36 rfl rfl rfl rfl (aU rfl (Q0 rfl (tT u l)) (aU rfl (eJ rfl) (aNn ?_)))))))
 refine aa _ rfl (fun h1 => ?_) (fun h1 => ?_)
 ·skip
  have hz:dS u l=false:=by simpa using h1
  refine aSR (aA rfl (aNn (ae (aj (FZ1 [] Tryz.results16 rfl ?_)))))
  unfold prB;rw [hz];rfl
 ·skip
  have hz:dS u l=true:=by simpa using h1
  obtain ⟨_,hz1,hz2,hz3,hz4⟩:=dh hz
  have hE:∀ K:Nat,K<4→0≤elt (iD l) (K:Int)∧elt (iD l) (K:Int)≤1048576:=fun K hK=>match K,hK with
    | 0,_=>⟨Int.le_refl _,show (0:Int)≤1048576 by decide⟩
    | 1,_=>⟨hz1.1,show l.code≤_ by omega⟩
    | 2,_=>⟨show 0≤l.data by omega,show l.data≤_ by omega⟩
    | 3,_=>⟨show 0≤l.zero by omega,show l.zero≤_ by omega⟩
  refine aD (an (aq (fI (p:=ShF aV cI) eC (fI (p:=ShF aV cI) eC (az (aU rfl (bP (l:=[(1,.const (.bool true))]) (zs:=[.slice none 0 0,.bool false]) (pl:=[(0,1),(1,1)]) (by kernel_rfl) (by kernel_rfl) (by kernel_rfl) rfl rfl rfl) (LT rfl (aS rfl rfl rfl (fun b3_1=>(aHN ?_))))))))))
  refine aU rfl (bP (l:=[(1,.const (.bool true))]) (zs:=[.slice none 0 0,.bool false]) (pl:=[(0,1),(1,1)]) (by kernel_rfl) (by kernel_rfl) (by kernel_rfl) rfl rfl rfl) (LT rfl (aS rfl rfl rfl (fun b3_3=>(aHN ?_))))
  refine aA rfl (aA rfl (aNn (aSR (UO 3 rfl rfl (UL 1 tk3 rfl rfl rfl rfl (UO 4 rfl rfl (UL 1 tk3 rfl rfl rfl rfl (UO 5 rfl rfl (UL 1 tk3 rfl rfl rfl rfl (aU rfl (ri (l:=[(0,.const (.int .i64 0)),(1,.tmp 24),(2,.tmp 26),(3,.tmp 28)]) (zs:=[.int .i64 0,.int .i64 0,.int .i64 0,.int .i64 0]) (sz:=1) (m:=4) (by kernel_rfl) (by kernel_rfl) rfl rfl rfl) (LT rfl (aW (zs:=[.int .i64 0,.int .i64 0,.int .i64 0,.int .i64 0]) (by kernel_rfl) rfl (fun b4_7=>(aHN ?_))))))))))))))
  refine aT rfl (bX 4 tk81 rfl rfl rfl rfl (aHK ?_))
  refine aNs (aq (aZ 4 rfl rfl ?_))
  show awp _ _ _ _ ⟨_,At _ 0 _::_,_⟩
  refine az (UO 2 rfl rfl (UL 0 tk22 rfl rfl rfl rfl (aU rfl (bk Tryz.underlying22 rfl) (aM rfl (aNn (aH (aF [2,3,5,6,7,31,32,33] [4,3,2,1,0] [0,1,2,3] (fun (q:Nat × (Sl Span × Bool) × (Sl Span × Bool)) st=>(q.1≤u.nodes.l.length∧((q.2.1.1.l,q.2.1.2),(q.2.2.1.l,q.2.2.2))=((u.nodes.l.zip l.nodes.l).take q.1).foldl (fC l) ck0∧oL q.1 (q.2.1.1.l,q.2.1.2)∧oL q.1 (q.2.2.1.l,q.2.2.2))∧st=⟨[(2,true,.pointer (some ⟨b0_0,0,none⟩)),(3,true,.pointer (some ⟨b0_1,0,none⟩)),(5,true,.pointer (some ⟨b3_1,0,none⟩)),(6,true,.pointer (some ⟨b3_3,0,none⟩)),(7,true,.pointer (some ⟨b4_7,0,none⟩)),(31,true,u.nodes.val),(32,true,.int .i64 u.nodes.l.length),(33,true,.int .i64 q.1)],[At b4_7 0 [.v (.int .i64 0),.v (.int .i64 l.code),.v (.int .i64 l.data),.v (.int .i64 l.zero)],ShF aV q.2.1.1,ShF aV q.2.2.1,u.ok,l.ok],[Box b0_0 32 u.vs,Box b0_1 36 l.vs,Box b3_1 80 [q.2.1.1.val,.bool q.2.1.2],Box b3_3 80 [q.2.2.1.val,.bool q.2.2.2]]⟩) (fun q=>u.nodes.l.length-q.1) rfl (⟨(0,(cI,true),(cI,true)),⟨Nat.zero_le _,rfl,⟨bD.of rfl,Nat.zero_le _⟩,⟨bD.of rfl,Nat.zero_le _⟩⟩,rfl⟩) ?_)))))))
  rintro ⟨k,⟨M,mo⟩,⟨T,tq⟩⟩ st ⟨⟨hk,hf,hM,hT'⟩,rfl⟩
  dsimp only at hk hf hM hT'
  refine aSR (aU rfl (cf rfl rfl) (aNs ?_))
  refine aa _ rfl (fun h2 => ?_) (fun h2 => ?_)
  ·skip
   have hk':k<u.nodes.l.length:=by simpa using h2
   obtain ⟨x,hx⟩:∃ x,u.nodes.l[k]? = some x:=⟨_,List.getElem?_eq_getElem hk'⟩
   obtain ⟨a,ha⟩:∃ a,l.nodes.l[k]? = some a:=⟨_,List.getElem?_eq_getElem (by omega)⟩
   have hxo:=(hu.nodes x (List.mem_of_getElem? hx)).sec
   have hxs:0≤x.size∧x.size≤1048576:=hxo.size
   have hxa:1≤x.align∧x.align≤256:=hxo.al
   have hai:=hl.nodes a (List.mem_of_getElem? ha)
   have hsn:((u.nodes.l.zip l.nodes.l).take (k+1)).foldl (fC l) ck0=fC l ((M.l,mo),(T.l,tq)) (x,a):=by
     rw [List.take_add_one,show (u.nodes.l.zip l.nodes.l)[k]? = some (x,a) from List.getElem?_zip_eq_some.2 ⟨hx,ha⟩,Option.toList_some,List.foldl_append,hf];rfl
   obtain ⟨K,hK,hK3⟩:∃ K:Nat,lj x.kind=(K:Int)∧K<3:=by
     rcases abG x.kind with h | h | h
     · exact ⟨0,h,by omega⟩
     · exact ⟨1,h,by omega⟩
     · exact ⟨2,h,by omega⟩
   refine aD (an (aq (aH (aSR (aM rfl (bI true rfl rfl (fun _=>ai Tryz.underlying22 tk52 rfl ((aJ.f_nodes (.of (ax 3 rfl)))) rfl (ak hx) rfl rfl) (fun h=>absurd h (by decide)) (fun ⟨b7_1,o7_1⟩=>(US 0 tk52 0 rfl rfl rfl rfl rfl (LT rfl (aW (zs:=[.string .empty,.string .empty,.int .i64 0,.int .i64 0,.int .i64 0,.string .empty,.slice none 0 0,.slice none 0 0,.slice none 0 0,.slice none 0 0,.slice none 0 0,.slice none 0 0]) (by kernel_rfl) rfl (fun b7_3=>(aHN ?_))))))))))))
   refine aA rfl (aT rfl (bX 4 tk52 rfl rfl rfl rfl (aHK ?_)))
   refine aNn (aSR (UO 2 rfl rfl (UL 4 tk3 rfl rfl rfl rfl (aU rfl (Q0 rfl (tR x.kind)) (aNn ?_)))))
   refine aa _ rfl (fun h3 => ?_) (fun h3 => ?_)
   ·skip
    have hbk:dH x.kind=true:=h3
    rw [show fC l ((M.l,mo),(T.l,tq)) (x,a)=((M.l,mo),dU (T.l,tq) a x.size x.align 0 l.tls) from if_pos hbk] at hsn
    refine DR [12] 13 (VM 0 rfl rfl (VO 1 0 rfl rfl rfl (VL 2 1 tk33 rfl rfl rfl rfl rfl (VM 3 rfl rfl (dz 4 rfl (by kernel_rfl) true rfl rfl (fun _=>ai Tryz.underlying33 tk3 rfl ((aN.f_nodes (.of (ax 5 rfl)))) rfl (ak ha) rfl rfl) (fun h=>absurd h (by decide)) (fun ⟨b9_4,o9_4⟩=>(VT 5 0 tk3 0 rfl rfl rfl rfl rfl rfl (VO 6 4 rfl rfl rfl (VL 7 4 tk3 rfl rfl rfl rfl rfl (VO 8 3 rfl rfl rfl (VL 9 4 tk3 rfl rfl rfl rfl rfl (VO 10 6 rfl rfl rfl (VL 11 1 tk3 rfl rfl rfl rfl rfl (VE 12 rfl rfl (EC [2] [3] rfl (j9 b3_3 T tq a x.size x.align 0 l.tls hT'.1 (Nat.le_trans hT'.2 (by omega)) hai (by omega) (by omega) (by omega)) ?_)))))))))))))))
    rintro _ _ _ ⟨T2,⟨rfl,rfl⟩,hT2⟩
    refine bST rfl ?_
    refine BN (ca (an (az (aU rfl (bz rfl rfl (by omega)) (aM rfl (aNn ?_))))))
    refine ⟨[2,3,5,6,7,31,32,33],[4,3,7,1,0],[0,1,2,3],rfl,?_⟩
    exact ⟨(k+1,(M,mo),(T2,_)),⟨⟨hk',by dsimp only;rw [hsn,hT2],hM.mono (Nat.le_succ _),by dsimp only;rw [hT2];exact hT'.use _ _ _ _ _⟩,rfl⟩,by dsimp only;omega⟩
   ·skip
    have hbk:¬ dH x.kind=true:=by rw [show dH x.kind=false from h3];exact Bool.false_ne_true
    rw [show fC l ((M.l,mo),(T.l,tq)) (x,a)=(dU (M.l,mo) a x.size x.align (elt (iD l) (lj x.kind)) (elt (iD l) (lj x.kind+1)),(T.l,tq)) from if_neg hbk,hK] at hsn
    have hE1:=hE K (by omega)
    have hE2:=hE (K+1) (by omega)
    refine DR [21] 22 (VM 0 rfl rfl (VO 1 0 rfl rfl rfl (VL 2 1 tk33 rfl rfl rfl rfl rfl (VM 3 rfl rfl (dz 4 rfl (by kernel_rfl) true rfl rfl (fun _=>ai Tryz.underlying33 tk3 rfl ((aN.f_nodes (.of (ax 5 rfl)))) rfl (ak ha) rfl rfl) (fun h=>absurd h (by decide)) (fun ⟨b10_4,o10_4⟩=>(VT 5 0 tk3 0 rfl rfl rfl rfl rfl rfl (VO 6 4 rfl rfl rfl (VL 7 4 tk3 rfl rfl rfl rfl rfl (VO 8 3 rfl rfl rfl (VL 9 4 tk3 rfl rfl rfl rfl rfl (VO 10 2 rfl rfl rfl (VL 11 4 tk3 rfl rfl rfl rfl rfl (bV 12 rfl rfl (Q0 rfl (m9 x.kind)) (bV 13 rfl rfl (iK (K) Tryz.underlying81 tk3 rfl rfl (hK) (by omega)) ?_)))))))))))))))
    refine bV 14 rfl rfl (cm (p:=0) (o:=K*1) (v:=.int .i64 (elt (iD l) (K:Int))) tk3 rfl (.of (ax 2 rfl)) (vH l (by omega))) (VO 15 2 rfl rfl rfl (VL 16 4 tk3 rfl rfl rfl rfl rfl (bV 17 rfl rfl (Q0 rfl (m9 x.kind)) (bV 18 rfl rfl (bz rfl rfl (by omega)) ?_))))
    refine bV 19 rfl rfl (iK (K+1) Tryz.underlying81 tk3 rfl rfl (by rw [hK];rfl) (by omega)) ?_
    refine bV 20 rfl rfl (cm (p:=0) (o:=(K+1)*1) (v:=.int .i64 (elt (iD l) ((K+1:Nat):Int))) tk3 rfl (.of (ax 2 rfl)) (vH l (by omega))) (VE 21 rfl rfl (EC [3] [2] rfl (j9 b3_1 M mo a x.size x.align _ _ hM.1 (Nat.le_trans hM.2 (by omega)) hai (by omega) (by omega) (by omega)) ?_))
    rintro _ _ _ ⟨M2,⟨rfl,rfl⟩,hM2⟩
    refine bST rfl ?_
    refine BN (ca (an (az (aU rfl (bz rfl rfl (by omega)) (aM rfl (aNn ?_))))))
    refine ⟨[2,3,5,6,7,31,32,33],[4,7,2,1,0],[0,1,2,3],rfl,?_⟩
    exact ⟨(k+1,(M2,_),(T,tq)),⟨⟨hk',by dsimp only;rw [hsn,hM2];rfl,by dsimp only;rw [hM2];exact hM.use _ _ _ _ _,hT'.mono (Nat.le_succ _)⟩,rfl⟩,by dsimp only;omega⟩
  ·skip
   have hke:k=u.nodes.l.length:=by have:=of_decide_eq_false h2;omega
   subst hke
   rw [List.take_of_length_le hzi] at hf
   replace hf:((M.l,mo),(T.l,tq))=jZ u l:=hf
   refine aY (bb (bb (bg (an (aSR (UL 0 tk32 rfl rfl rfl rfl (LT rfl (EC [1] [] rfl (wN u hs) ?_))))))))
   rintro _ _ _ ⟨rfl,L,⟨rfl,rfl⟩,hL⟩
   refine aST ?_
   refine aA rfl (aNs (aSR (UO 1 rfl rfl (UL 1 tk33 rfl rfl rfl rfl (aU rfl (bk Tryz.underlying33 rfl) (aM rfl (aNn (aH ?_))))))))
   refine aF [3,5,6,10,80,81,82] [5,3,2,0] [1,2,3] (fun (q:Nat × (Sl Span × Bool)) st=>(q.1≤l.slots.l.length∧(q.2.1.l,q.2.2)=(l.slots.l.zipIdx.take q.1).foldl (fm l (du u)) (jZ u l).1∧oL (100000000+q.1) (q.2.1.l,q.2.2))∧st=⟨[(3,true,.pointer (some ⟨b0_1,0,none⟩)),(5,true,.pointer (some ⟨b3_1,0,none⟩)),(6,true,.pointer (some ⟨b3_3,0,none⟩)),(10,true,L.val),(80,true,l.slots.val),(81,true,.int .i64 l.slots.l.length),(82,true,.int .i64 q.1)],[ShF bd L,ShF aV q.2.1,ShF aV T,l.ok],[Box b0_1 36 l.vs,Box b3_1 80 [q.2.1.val,.bool q.2.2],Box b3_3 80 [T.val,.bool tq]]⟩) (fun q=>l.slots.l.length-q.1) rfl (⟨(0,(M,mo)),⟨Nat.zero_le _,by rw [← hf];rfl,hM.mono hN⟩,rfl⟩) ?_
   rintro ⟨j,M3,mo3⟩ st ⟨⟨hj,hf3,hM3⟩,rfl⟩
   dsimp only at hj hf3 hM3
   refine aSR (aU rfl (cf rfl rfl) (aNs ?_))
   refine aa _ rfl (fun h4 => ?_) (fun h4 => ?_)
   ·skip
    have hj':j<l.slots.l.length:=by simpa using h4
    obtain ⟨a3,ha3⟩:∃ a,l.slots.l[j]? = some a:=⟨_,List.getElem?_eq_getElem hj'⟩
    have hai3:=hl.slots a3 (List.mem_of_getElem? ha3)
    have hsn3:(l.slots.l.zipIdx.take (j+1)).foldl (fm l (du u)) (jZ u l).1=fm l (du u) (M3.l,mo3) (a3,j):=by
      rw [List.take_add_one,show l.slots.l.zipIdx[j]? = some (a3,j) by rw [List.getElem?_zipIdx,ha3];simp,Option.toList_some,List.foldl_append,← hf3];rfl
    refine aD (an (aq (aH (aSR (aM rfl (bI true rfl rfl (fun _=>ai Tryz.underlying33 tk3 rfl ((aN.f_slots (.of (ax 3 rfl)))) rfl (ak ha3) rfl rfl) (fun h=>absurd h (by decide)) (fun ⟨b15_1,o15_1⟩=>(US 0 tk3 0 rfl rfl rfl rfl rfl (aA rfl (aA rfl (aNs (aSR (aM rfl (aM rfl ?_))))))))))))))
    refine aE (caps:=[]) [3] (false) (by kernel_rfl) true rfl rfl (fun _=>rfl) (fun hc=>rfl) (fun hc=>by rw [List.append_nil];exact pD L (j:Int)) (fun c1 hc1 => ?_)
    refine aU rfl (eJ rfl) (aNn ?_)
    refine aa _ rfl (fun h5 => ?_) (fun h5 => ?_)
    ·skip
     have hnm:¬ (j:Int)∈du u:=by rw [← hL,← hc1 rfl];simpa using h5
     rw [show fm l (du u) (M3.l,mo3) (a3,j)=(M3.l,mo3 && decide (a3 = -1)) from if_neg hnm] at hsn3
     refine aSR (aM rfl (aM rfl (UN rfl rfl (UO 1 rfl rfl (UL 1 tk4 rfl rfl rfl rfl (aM rfl (aG rfl rfl (fun hc=>bo rfl) (aG rfl rfl (fun hc=>dw (ah rfl hc) rfl) (aU rfl (dv rfl rfl (fun h=>gt rfl h)) (UN rfl rfl (UO 1 rfl rfl (aT rfl (bX 1 tk4 rfl rfl rfl rfl (aHK ?_))))))))))))))
     refine aNn (aY (bb (bg (an (az (aU rfl (bz rfl rfl (by omega)) (aM rfl (aNn ?_))))))))
     refine ⟨[3,5,6,10,80,81,82],[3,2,1,0],[0,1,2],rfl,?_⟩
     exact ⟨(j+1,(M3,mo3 && decide (a3 = -1))),⟨⟨hj',hsn3.symm,hM3.1,Nat.le_succ_of_le hM3.2⟩,rfl⟩,by dsimp only;omega⟩
    ·skip
     have hnm:(j:Int)∈du u:=by rw [← hL,← hc1 rfl];simpa using h5
     rw [show fm l (du u) (M3.l,mo3) (a3,j)=dU (M3.l,mo3) a3 8 8 l.code l.data from if_pos hnm] at hsn3
     refine aD (an (az (aM rfl (aM rfl (UO 3 rfl rfl (UL 0 tk3 rfl rfl rfl rfl (UO 4 rfl rfl (UL 0 tk3 rfl rfl rfl rfl (LF rfl (EC [2] [1] rfl (j9 b3_1 M3 mo3 a3 8 8 l.code l.data hM3.1 (Nat.le_trans hM3.2 (by omega)) hai3 (by omega) (by omega) (by omega)) ?_))))))))))
     rintro _ _ _ ⟨M4,⟨rfl,rfl⟩,hM4⟩
     refine aST ?_
     refine dJ (ca (an (az (aU rfl (bz rfl rfl (by omega)) (aM rfl (aNn ?_))))))
     refine ⟨[3,5,6,10,80,81,82],[3,5,1,0],[0,1,2],rfl,?_⟩
     exact ⟨(j+1,(M4,_)),⟨⟨hj',by dsimp only;rw [hsn3,hM4],by dsimp only;rw [hM4];exact hM3.use _ _ _ _ _⟩,rfl⟩,by dsimp only;omega⟩
   ·skip
    have hje:j=l.slots.l.length:=by have:=of_decide_eq_false h4;omega
    subst hje
    rw [List.take_of_length_le (by rw [List.length_zipIdx];exact Nat.le_refl _)] at hf3
    refine aY (bb (bb (bg (an (aq (aSR (UO 2 rfl rfl (UL 0 tk34 rfl rfl rfl rfl (aU rfl (bk Tryz.underlying34 rfl) (aM rfl (aNn (aH (aF [3,5,6,111,112,113] [2,1,0] [0,1,2] (fun (q:Nat × (Sl Span × Bool)) st=>(q.1≤l.stubs.l.length∧(q.2.1.l,q.2.2)=(l.stubs.l.take q.1).foldl (qu l) (l.slots.l.zipIdx.foldl (fm l (du u)) (jZ u l).1)∧oL (200000000+q.1) (q.2.1.l,q.2.2))∧st=⟨[(3,true,.pointer (some ⟨b0_1,0,none⟩)),(5,true,.pointer (some ⟨b3_1,0,none⟩)),(6,true,.pointer (some ⟨b3_3,0,none⟩)),(111,true,l.stubs.val),(112,true,.int .i64 l.stubs.l.length),(113,true,.int .i64 q.1)],[ShF aV q.2.1,ShF aV T,l.ok],[Box b0_1 36 l.vs,Box b3_1 80 [q.2.1.val,.bool q.2.2],Box b3_3 80 [T.val,.bool tq]]⟩) (fun q=>l.stubs.l.length-q.1) rfl (⟨(0,(M3,mo3)),⟨Nat.zero_le _,hf3,hM3.mono (by omega)⟩,rfl⟩) ?_)))))))))))))
    rintro ⟨i,M5,mo5⟩ st ⟨⟨hi,hf5,hM5⟩,rfl⟩
    dsimp only at hi hf5 hM5
    refine aSR (aU rfl (cf rfl rfl) (aNs ?_))
    refine aa _ rfl (fun h6 => ?_) (fun h6 => ?_)
    ·skip
     have hi':i<l.stubs.l.length:=by simpa using h6
     obtain ⟨s,hs5⟩:∃ s,l.stubs.l[i]? = some s:=⟨_,List.getElem?_eq_getElem hi'⟩
     have hsi:=hl.stubs s (List.mem_of_getElem? hs5)
     have hsn5:(l.stubs.l.take (i+1)).foldl (qu l) (l.slots.l.zipIdx.foldl (fm l (du u)) (jZ u l).1)=dU (M5.l,mo5) s.at_ 8 8 0 l.code:=by
       rw [List.take_add_one,hs5,Option.toList_some,List.foldl_append,← hf5];rfl
     refine aD (an (aq (aH (aSR (bI true rfl rfl (fun _=>ai Tryz.underlying34 tk44 rfl ((aN.f_stubs (.of (ax 2 rfl)))) rfl (ak hs5) rfl rfl) (fun h=>absurd h (by decide)) (fun ⟨b22_0,o22_0⟩=>(US 0 tk44 0 rfl rfl rfl rfl rfl (LT rfl (aW (zs:=[.int .i64 0,.int .i64 0,.int .i64 0,.int .i64 0]) (by kernel_rfl) rfl (fun b22_2=>(aHN ?_)))))))))))
     refine aT rfl (bX 3 tk44 rfl rfl rfl rfl (aHK ?_))
     refine aNn (az (aM rfl (UO 0 rfl rfl (UL 3 tk3 rfl rfl rfl rfl (UO 3 rfl rfl (UL 0 tk3 rfl rfl rfl rfl (LF rfl (EC [2] [1] rfl (j9 b3_1 M5 mo5 s.at_ 8 8 0 l.code hM5.1 (Nat.le_trans hM5.2 (by omega)) hsi (by omega) (by omega) (by omega)) ?_))))))))
     rintro _ _ _ ⟨M6,⟨rfl,rfl⟩,hM6⟩
     refine aST ?_
     refine dJ (ca (an (az (aU rfl (bz rfl rfl (by omega)) (aM rfl (aNn ?_))))))
     refine ⟨[3,5,6,111,112,113],[4,1,0],[0,1,2],rfl,?_⟩
     exact ⟨(i+1,(M6,_)),⟨⟨hi',by dsimp only;rw [hsn5,hM6],by dsimp only;rw [hM6];exact hM5.use _ _ _ _ _⟩,rfl⟩,by dsimp only;omega⟩
    ·skip
     have hie:i=l.stubs.l.length:=by have:=of_decide_eq_false h6;omega
     subst hie
     rw [List.take_length] at hf5
     refine aY (bb (bb (bg (an (aSR (aM rfl (UN rfl rfl (UO 1 rfl rfl (UL 1 tk4 rfl rfl rfl rfl (aM rfl (aG rfl rfl (fun hc=>bo rfl) (aG rfl rfl (fun hc=>gW (ah rfl hc)) (aG rfl rfl (fun hc=>qFA (off:=1) (ah rfl hc)) ?_)))))))))))))
     refine GL 2 tk4 rfl rfl rfl rfl rfl (aU rfl (dv rfl rfl (fun h=>gt rfl h)) (aA rfl (aNn (ae (FZ1 [] Tryz.results16 rfl ?_)))))
     unfold prB vk;rw [hz,Bool.true_and,← hf5,← hf]
def stB(u:aJ)(s:bj):Bool:=(decide (s.kind=1) && decide (0≤s.n) && decide (s.n<u.imports.l.length) && decide (s.off=0)) || (decide (s.kind=0) && decide (0≤s.n) && decide (s.n<u.nodes.l.length))
def usS(ln:List Int)(S:List bj)(U:List Int)(c:bt):Option (List Int) :=
 if om ln c=true then none else if dt ln c=false then some U else if b9 c S<0 then none else some (U++[b9 c S])
def usL(ln:List Int)(S:List bj)(cs:List bt):Option (List Int):=cs.foldlM (usS ln S) []
theorem aaj{ln:List Int}{S:List bj}{cs:List bt}{k:Nat}{c:bt}(h:cs[k]? = some c):usL ln S (cs.take (k+1))=(usL ln S (cs.take k)).bind fun q=>usS ln S q c:=by
 unfold usL
 rw [List.take_add_one,h,Option.toList_some,List.foldlM_append]
 show (_ >>= fun s=>List.foldlM (usS ln S) s [c])=_
 cases List.foldlM (usS ln S) [] (cs.take k) with
 | none=>rfl
 | some s=>show List.foldlM (usS ln S) s [c]=_;rw [List.foldlM_cons];show (usS ln S s c >>= fun s=>pure s)=_;rw [bind_pure];rfl
theorem td{ln:List Int}{S:List bj}{cs:List bt}{k:Nat}(h:usL ln S (cs.take k)=none):usL ln S cs=none:=by
 unfold usL at *
 rw [← List.take_append_drop k cs,List.foldlM_append,h];rfl
noncomputable def srB (u:aJ) (l:aN):Bool:=prB u l && l.stubs.l.all (stB u) && match usL l.nodes.l l.stubs.l (bR u.nodes.l l.nodes.l) with
 | none=>false
 | some U=>decide (((km (ft U):Nat):Int)=l.stubs.l.length)
theorem ub(u:aJ)(l:aN)(hu:iy u)(hs:SzU u)(hl:LyI l)(hU:prB u l=true→tn u l)(hS:prB u l=true→∀ s∈l.stubs.l,-4398046511104≤s.at_∧s.at_≤4398046511104) :
   Con Tryz.prog 7 [u.val,l.val] [u.ok,l.ok] [] (YN Value.bool fun b=>b=srB u l):=by
 have hT:=hl.nst
 refine EN2 Tryz.func7 rfl (aO (aJ.f_nodes (.of (ax 0 rfl))) (fun hlen=>(aO (aJ.f_imports (.of (ax 0 rfl))) (fun hlei=>(aSR (LT rfl (aS rfl rfl rfl (fun b0_0=>(aHN ?_)))))))))
 refine LT rfl (aS rfl rfl rfl (fun b0_1=>(aHN ?_)))
 refine aA rfl (aNs (aSR (UL 0 tk32 rfl rfl rfl rfl (UL 1 tk36 rfl rfl rfl rfl (aU rfl (QC rfl (fun w S fp hst=>(tS u l hu hs hl).quiet (fun _ h=>h) hst)) (aU rfl (eJ rfl) (aNn ?_)))))))
 refine aa _ rfl (fun h1 => ?_) (fun h1 => ?_)
 ·skip
  have hp:prB u l=false:=by simpa using h1
  refine aSR (aA rfl (aNn (ae (aj (FZ1 [] Tryz.results7 rfl ?_)))))
  refine ⟨⟨rfl,rfl⟩,_,rfl,?_⟩
  unfold srB;rw [hp];rfl
 ·skip
  have hp:prB u l=true:=by simpa using h1
  have hul:=hU hp
  have hsb:=hS hp
  refine aD (an (aq (aSR (UO 2 rfl rfl (UL 1 tk34 rfl rfl rfl rfl (aU rfl (bk Tryz.underlying34 rfl) (aM rfl (aNn (aH (aF [2,3,18,19,20] [1,0] [0,1] (fun (k:Nat) st=>(k≤l.stubs.l.length∧(l.stubs.l.take k).all (stB u)=true)∧st=⟨[(2,true,.pointer (some ⟨b0_0,0,none⟩)),(3,true,.pointer (some ⟨b0_1,0,none⟩)),(18,true,l.stubs.val),(19,true,.int .i64 l.stubs.l.length),(20,true,.int .i64 k)],[u.ok,l.ok],[Box b0_0 32 u.vs,Box b0_1 36 l.vs]⟩) (fun k=>l.stubs.l.length-k) rfl (⟨0,⟨Nat.zero_le _,rfl⟩,rfl⟩) ?_))))))))))
  rintro k st ⟨⟨hk,ha⟩,rfl⟩
  refine aSR (aU rfl (cf rfl rfl) (aNs ?_))
  refine aa _ rfl (fun h2 => ?_) (fun h2 => ?_)
  ·skip
   have hk':k<l.stubs.l.length:=by simpa using h2
   obtain ⟨s,hs1⟩:∃ s,l.stubs.l[k]? = some s:=⟨_,List.getElem?_eq_getElem hk'⟩
   refine aD (an (aq (aH (aSR (bI true rfl rfl (fun _=>ai Tryz.underlying34 tk44 rfl ((aN.f_stubs (.of (ax 1 rfl)))) rfl (ak hs1) rfl rfl) (fun h=>absurd h (by decide)) (fun ⟨b5_0,o5_0⟩=>(US 0 tk44 0 rfl rfl rfl rfl rfl (LT rfl (aW (zs:=[.int .i64 0,.int .i64 0,.int .i64 0,.int .i64 0]) (by kernel_rfl) rfl (fun b5_2=>(aHN ?_)))))))))))
   refine aT rfl (bX 2 tk44 rfl rfl rfl rfl (aHK ?_))
   refine aNn (aSR (UO 1 rfl rfl (UL 2 tk3 rfl rfl rfl rfl (aU rfl (dw rfl rfl) (aM rfl (GO 2 rfl rfl rfl (GL 2 tk3 rfl rfl rfl rfl rfl (aG rfl rfl (fun hc=>eT (ah rfl hc) rfl) (aU rfl (dv rfl rfl (fun h=>gt rfl h)) (aM rfl (GO 2 rfl rfl rfl (GL 2 tk3 rfl rfl rfl rfl rfl (GO 3 rfl rfl rfl ?_)))))))))))))
   refine GL 0 tk23 rfl rfl rfl rfl rfl (aG rfl rfl (fun hc=>bk Tryz.underlying23 (ah rfl hc)) (aG rfl rfl (fun hc=>cf (ah rfl hc) (ah rfl hc)) (aU rfl (dv rfl rfl (fun h=>gt rfl h)) (aM rfl (GO 3 rfl rfl rfl (GL 2 tk3 rfl rfl rfl rfl rfl (aG rfl rfl (fun hc=>dw (ah rfl hc) rfl) (aU rfl (dv rfl rfl (fun h=>gt rfl h)) (aA rfl (aNn (aSR (UO 1 rfl rfl (UL 2 tk3 rfl rfl rfl rfl (aU rfl (dw rfl rfl) (aM rfl ?_)))))))))))))))
   refine GO 2 rfl rfl rfl (GL 2 tk3 rfl rfl rfl rfl rfl (aG rfl rfl (fun hc=>eT (ah rfl hc) rfl) (aU rfl (dv rfl rfl (fun h=>gt rfl h)) (aM rfl (GO 2 rfl rfl rfl (GL 2 tk3 rfl rfl rfl rfl rfl (GO 2 rfl rfl rfl ?_)))))))
   refine GL 0 tk22 rfl rfl rfl rfl rfl (aG rfl rfl (fun hc=>bk Tryz.underlying22 (ah rfl hc)) (aG rfl rfl (fun hc=>cf (ah rfl hc) (ah rfl hc)) (aU rfl (dv rfl rfl (fun h=>gt rfl h)) (aA rfl (aNn (aSR (aM rfl (aU rfl (eJ rfl) (aM rfl (aG rfl rfl (fun hc=>bo rfl) (aG rfl rfl (fun hc=>eJ (ah rfl hc)) (aU rfl (dv rfl rfl (fun h=>gt rfl h)) (aNn ?_)))))))))))))
   refine aa _ rfl (fun h3 => ?_) (fun h3 => ?_)
   ·skip
    have hno:stB u s=false:=by unfold stB;simp at h3 ⊢;omega
    refine aSR (aA rfl (aNn (ae (aK (aj (aj (aK (aj (FZ1 [] Tryz.results7 rfl ?_)))))))))
    refine ⟨⟨rfl,rfl⟩,_,rfl,?_⟩
    have:l.stubs.l.all (stB u)=false:=List.all_eq_false.2 ⟨s,List.mem_of_getElem? hs1,by rw [hno];exact Bool.false_ne_true⟩
    unfold srB;rw [hp,this];rfl
   ·skip
    have hyes:stB u s=true:=by unfold stB;simp at h3 ⊢;omega
    refine aD (ca (an (az (aU rfl (bz rfl rfl (by omega)) (aM rfl (aNn ?_))))))
    refine ⟨[2,3,18,19,20],[1,0],[0,1],rfl,?_⟩
    exact ⟨k+1,⟨⟨hk',by rw [List.take_add_one,hs1,Option.toList_some,List.all_append,ha,Bool.true_and];simp [hyes]⟩,rfl⟩,by omega⟩
  ·skip
   have hke:k=l.stubs.l.length:=by have:=of_decide_eq_false h2;omega
   subst hke
   rw [List.take_length] at ha
   refine aY (bb (bb (bg (an (aq (fI (p:=ShF bd l.nodes) (aN.f_nodes (.of (ax 1 rfl))) (fI (p:=ShF bj.row l.stubs) (aN.f_stubs (.of (ax 2 rfl))) (az (LT rfl (dB (eI) (vBo) rfl (fun b11_0=>(aHN ?_))))))))))))
   refine aA rfl (aNs (aSR (UL 0 tk32 rfl rfl rfl rfl (UL 1 tk36 rfl rfl rfl rfl (LT rfl (EC [1,0] [] rfl ((na u l hul.len hul.refs hul.at_).pre (jm (aJ.f_nodes (.of (ax 0 rfl))) (aJ.f_nodesA (.of (ax 0 rfl))) (aN.f_nodes (.of (ax 1 rfl))))) ?_))))))
   rintro _ _ _ ⟨rfl,C,⟨rfl,rfl⟩,hCl⟩
   refine aST ?_
   refine aU rfl (bk Tryz.underlying64 rfl) (aM rfl (aNn (aH (aO (.of (ax 0 rfl)) (fun hlc => ?_)))))
   refine aF [3,9,71,72,73] [4,3,2] [1,2] (fun (q:Nat × List Int) st=>(q.1≤C.l.length∧usL l.nodes.l l.stubs.l (C.l.take q.1)=some q.2)∧st=⟨[(3,true,.pointer (some ⟨b0_1,0,none⟩)),(9,true,.map (some b11_0)),(71,true,C.val),(72,true,.int .i64 C.l.length),(73,true,.int .i64 q.1)],[ShF bt.row C,ShF bj.row l.stubs,ShF bd l.nodes],[Box b0_1 36 l.vs,eg b11_0 eI vBo (ft q.2)]⟩) (fun q=>C.l.length-q.1) rfl (⟨(0,[]),⟨Nat.zero_le _,rfl⟩,by show _=(⟨_,_,[_,eg b11_0 eI vBo (ft [])]⟩:Sta);rw [← kA];rfl⟩) ?_
   rintro ⟨k,U⟩ st ⟨⟨hk,hus⟩,rfl⟩
   dsimp only at hk hus
   refine aSR (aU rfl (cf rfl rfl) (aNs ?_))
   refine aa _ rfl (fun h4 => ?_) (fun h4 => ?_)
   ·skip
    have hk':k<C.l.length:=by simpa using h4
    obtain ⟨c,hc⟩:∃ c,C.l[k]? = some c:=⟨_,List.getElem?_eq_getElem hk'⟩
    have hcm:c∈bR u.nodes.l l.nodes.l:=hCl ▸ List.mem_of_getElem? hc
    obtain ⟨hcc,hcb⟩:=hul.call c hcm
    have hsn:=aaj (ln:=l.nodes.l) (S:=l.stubs.l) hc
    rw [hus,Option.bind_some] at hsn
    refine aD (an (aq (aH (aSR (UI Tryz.underlying64 tk67 0 rfl rfl rfl rfl rfl (ak hc) rfl rfl (fun ⟨b14_0,o14_0⟩=>(US 0 tk67 0 rfl rfl rfl rfl rfl (LT rfl (aW (zs:=[.int .i64 0,.int .i64 0,.int .i64 0,.int .i64 0,.int .i64 0,.int .i64 0,.int .i64 0,.int .i64 0]) (by kernel_rfl) rfl (fun b14_2=>(aHN ?_)))))))))))
    refine aT rfl (bX 2 tk67 rfl rfl rfl rfl (aHK ?_))
    refine aNs (aSR (UL 2 tk67 rfl rfl rfl rfl (UL 0 tk36 rfl rfl rfl rfl (aU rfl (Q1 rfl (r8 c l hcc) 3 rfl) (aNn ?_)))))
    refine aa _ rfl (fun h5 => ?_) (fun h5 => ?_)
    ·skip
     have hod:om l.nodes.l c=true:=h5
     have hno:usL l.nodes.l l.stubs.l C.l=none:=td (k:=k+1) (by rw [hsn];unfold usS;rw [if_pos hod])
     refine aSR (aA rfl (aNn (ae (aj (aK (aj (aj (aK (aj (FZ1 [] Tryz.results7 rfl ?_))))))))))
     refine ⟨⟨rfl,rfl⟩,_,rfl,?_⟩
     unfold srB;rw [← hCl,hno,Bool.and_false]
    ·skip
     have hod:¬ om l.nodes.l c=true:=by simpa using h5
     refine aD (an (aq (aSR (UL 2 tk67 rfl rfl rfl rfl (UL 0 tk36 rfl rfl rfl rfl (aU rfl (Q1 rfl (jD c l hcc) 3 rfl) (aU rfl (eJ rfl) (aNn ?_))))))))
     refine aa _ rfl (fun h6 => ?_) (fun h6 => ?_)
     ·skip
      have hnd:dt l.nodes.l c=false:=by simpa using h6
      have hst1:usS l.nodes.l l.stubs.l U c=some U:=by unfold usS;rw [if_neg hod,if_pos hnd]
      refine aY (bb (bg (an (az (aU rfl (bz rfl rfl (by omega)) (aM rfl (aNn ?_)))))))
      refine ⟨[3,9,71,72,73],[2,1,0],[0,1],rfl,?_⟩
      exact ⟨(k+1,U),⟨⟨hk',by dsimp only;rw [hsn,hst1]⟩,rfl⟩,by dsimp only;omega⟩
     ·skip
      have hnd:¬ dt l.nodes.l c=false:=by simpa using h6
      refine aD (an (aSR (UL 2 tk67 rfl rfl rfl rfl (UO 2 rfl rfl (UL 0 tk34 rfl rfl rfl rfl ?_)))))
      refine aU rfl (Q1 rfl (jC c hcc l.stubs (fun s hs2=>by have:=hsb s hs2;omega)) 2 rfl) ?_
      refine aA rfl (aNs (aSR (aM rfl (aU rfl (cf rfl rfl) (aNn ?_)))))
      refine aa _ rfl (fun h7 => ?_) (fun h7 => ?_)
      ·skip
       have hfi:b9 c l.stubs.l<0:=by simpa using h7
       have hno:usL l.nodes.l l.stubs.l C.l=none:=td (k:=k+1) (by rw [hsn];unfold usS;rw [if_neg hod,if_neg hnd,if_pos hfi])
       refine aSR (aA rfl (aNn (ae (aj (aK (aj (aj (aK (aj (FZ1 [] Tryz.results7 rfl ?_))))))))))
       refine ⟨⟨rfl,rfl⟩,_,rfl,?_⟩
       unfold srB;rw [← hCl,hno,Bool.and_false]
      ·skip
       have hfi:¬ b9 c l.stubs.l<0:=by simpa using h7
       have hst1:usS l.nodes.l l.stubs.l U c=some (U++[b9 c l.stubs.l]):=by unfold usS;rw [if_neg hod,if_neg hnd,if_neg hfi]
       refine aD (an (az (aM rfl (aM rfl (aT rfl (cD (k:=_) (v:=true) 1 Tryz.underlying63 (kyI) rfl rfl rfl rfl (aHK ?_)))))))
       refine dJ (ca (an (az (aU rfl (bz rfl rfl (by omega)) (aM rfl (aNn ?_))))))
       refine ⟨[3,9,71,72,73],[2,1,0],[0,1],rfl,?_⟩
       exact ⟨(k+1,U++[b9 c l.stubs.l]),⟨⟨hk',by dsimp only;rw [hsn,hst1]⟩,by dsimp only;rw [gD];rfl⟩,by dsimp only;omega⟩
   ·skip
    have hke:k=C.l.length:=by have:=of_decide_eq_false h4;omega
    subst hke
    rw [List.take_length,hCl] at hus
    refine aY (bb (bb (bg (an (aSR (aM rfl (aU rfl (zC 1 Tryz.underlying63 kyI rfl rfl) (UO 2 rfl rfl (UL 0 tk34 rfl rfl rfl rfl (aU rfl (bk Tryz.underlying34 rfl) (aU rfl (dw rfl rfl) (aA rfl (aNn (ae (FZ1 [] Tryz.results7 rfl ?_)))))))))))))))
    refine ⟨⟨rfl,rfl⟩,_,rfl,?_⟩
    unfold srB;rw [hp,ha,hus];rfl
theorem jx:∀ {ns:List aQ} {ln:List Int} {k:Nat} {x:aQ} {a:Int} {r:dE},ns[k]? = some x→ln[k]? = some a→r∈x.refs.l→r.kind=6→(⟨a+r.at_,r⟩:bt)∈bR ns ln:=fun {ns ln k x a r} h1 h2 h3 h4 =>
 List.mem_flatMap.2 ⟨(x,a),List.mem_of_getElem? (List.getElem?_zip_eq_some.2 ⟨h1,h2⟩),List.mem_map.2 ⟨r,List.mem_filter.2 ⟨h3,by simpa using h4⟩,rfl⟩⟩
def InC(u:aJ)(i k:Int):Prop:=(0≤i∧i<u.nodes.l.length)∧(0≤k∧k<(elt u.nodes.l i).refs.l.length)∧(elt (elt u.nodes.l i).refs.l k).kind=6
abbrev iN(u:aJ)(l:aN)(i k:Int):bt:=⟨elt l.nodes.l i+(elt (elt u.nodes.l i).refs.l k).at_,elt (elt u.nodes.l i).refs.l k⟩
def SvR(u:aJ)(l:aN)(i k n:Int)(b:Bool):Prop :=
 (¬ InC u i k∧n=0∧b=false)∨(InC u i k∧iN u l i k∈bR u.nodes.l l.nodes.l∧((dt l.nodes.l (iN u l i k)=false∧n = -1∧b=true)∨(dt l.nodes.l (iN u l i k)=true∧n=max (b9 (iN u l i k) l.stubs.l) 0∧b=decide (0≤b9 (iN u l i k) l.stubs.l))))
theorem iC(u:aJ)(l:aN)(i k:Int)(hul:tn u l)(hsb:∀ s∈l.stubs.l,-1099511627776≤s.at_∧s.at_≤1099511627776) :
   Con Tryz.prog 14 [u.val,l.val,.int .i64 i,.int .i64 k] [u.ok,l.ok] [] fun r ps hp=>(ps=[]∧hp=[])∧∃ n b,r=.tuple #[.int .i64 n,.bool b]∧SvR u l i k n b:=by
 have hlen:=hul.len
 refine EN4 Tryz.func14 rfl (fI (p:=ShF bd l.nodes) (aN.f_nodes (.of (ax 1 rfl))) (fI (p:=ShF bj.row l.stubs) (aN.f_stubs (.of (ax 2 rfl))) (aSR (LT rfl (aS rfl rfl rfl (fun b0_0=>(aHN ?_)))))))
 refine LT rfl (aS rfl rfl rfl (fun b0_1=>(aHN ?_)))
 refine aA rfl (aA rfl (aNs (aSR (aM rfl (aU rfl (cf rfl rfl) (aM rfl (aG rfl rfl (fun hc=>bo rfl) (GO 2 rfl rfl rfl ?_))))))))
 refine GL 0 tk22 rfl rfl rfl rfl rfl (aG rfl rfl (fun hc=>bk Tryz.underlying22 (ah rfl hc)) (aG rfl rfl (fun hc=>eT (ah rfl hc) (ah rfl hc)) (aU rfl (eX rfl rfl (fun h=>gf rfl h)) (aM rfl (aG rfl rfl (fun hc=>bo rfl) (aG rfl rfl (fun hc=>cf (ah rfl hc) rfl) (aU rfl (eX rfl rfl (fun h=>gf rfl h)) (aM rfl (aG rfl rfl (fun hc=>bo rfl) (GO 2 rfl rfl rfl (GL 0 tk22 rfl rfl rfl rfl rfl (aG rfl rfl (fun hc=>bo rfl) ?_))))))))))))
 refine bI _ rfl rfl (fun hc=>ai Tryz.underlying22 tk52 (ah rfl hc) ((aJ.f_nodes (.of (ax 2 rfl)))) (ah rfl hc) (bN (i:=i) (by simp at hc;omega) (by simp at hc;omega)) (by simp at hc;omega) rfl) (fun _=>⟨(0,0)⟩) (fun ⟨b1_18,o1_18⟩ => ?_)
 refine aG rfl rfl (fun hc=>qFA (off:=6) (ah rfl hc)) (aG rfl rfl (fun hc=>cq (o:=6) tk45 (ah rfl hc) (ax 0 rfl) hc rfl) (aG rfl rfl (fun hc=>bk Tryz.underlying45 (ah rfl hc)) (aG rfl rfl (fun hc=>eT (ah rfl hc) (ah rfl hc)) (aU rfl (eX rfl rfl (fun h=>gf rfl h)) (aM rfl (GO 2 rfl rfl rfl (GL 0 tk22 rfl rfl rfl rfl rfl (aG rfl rfl (fun hc=>bo rfl) ?_))))))))
 refine bI _ rfl rfl (fun hc=>ai Tryz.underlying22 tk52 (ah rfl hc) ((aJ.f_nodes (.of (ax 3 rfl)))) (ah rfl hc) (bN (i:=i) (by simp at hc;omega) (by simp at hc;omega)) (by simp at hc;omega) rfl) (fun _=>⟨(0,0)⟩) (fun ⟨b1_28,o1_28⟩ => ?_)
 refine aG rfl rfl (fun hc=>qFA (off:=6) (ah rfl hc)) (aG rfl rfl (fun hc=>cq (o:=6) tk45 (ah rfl hc) (ax 0 rfl) hc rfl) (aG rfl rfl (fun hc=>bo rfl) ?_))
 refine bI _ rfl rfl (fun hc=>ai Tryz.underlying45 tk54 (ah rfl hc) ((aQ.f_refs (Ent.elt (aJ.f_nodesA (.of (ax 4 rfl))) (i:=i) (by simp at hc;omega) (by simp at hc;omega)))) (ah rfl hc) (bN (i:=k) (by simp at hc;omega) (by simp at hc;omega)) (by simp at hc;omega) rfl) (fun _=>⟨(0,0)⟩) (fun ⟨b1_32,o1_32⟩ => ?_)
 refine aG rfl rfl (fun hc=>qFA (off:=1) (ah rfl hc)) (aG rfl rfl (fun hc=>cq (o:=1) tk3 (ah rfl hc) (ax 0 rfl) hc rfl) (aG rfl rfl (fun hc=>fg (ah rfl hc) rfl) (aU rfl (eX rfl rfl (fun h=>gf rfl h)) (aNn ?_))))
 refine aa _ rfl (fun h1 => ?_) (fun h1 => ?_)
 ·skip
  have hno:¬ InC u i k:=by rintro ⟨a,b,c⟩;simp [c] at h1;omega
  refine aSR (aA rfl (aA rfl (aNn (ae (aj (FZ2 [] Tryz.results14 rfl rfl ?_))))))
  exact ⟨⟨rfl,rfl⟩,0,false,rfl,.inl ⟨hno,rfl,rfl⟩⟩
 ·skip
  have hin:InC u i k:=by unfold InC;simp at h1;omega
  obtain ⟨hi,hk,h6⟩:=id hin
  obtain ⟨hx,ha⟩:=And.intro (cS hi.2 hi.1) (cS (l:=l.nodes.l) (i:=i) (by omega) hi.1)
  have hr:=cS hk.2 hk.1
  have hcm:=jx hx ha (List.mem_of_getElem? hr) h6
  have hcc:=(hul.call _ hcm).1
  have hcb:=(hul.call _ hcm).2
  have hat:=hul.at_ _ _ _ hx ha _ (List.mem_of_getElem? hr)
  refine aD (an (aSR (UO 2 rfl rfl (UL 0 tk22 rfl rfl rfl rfl (aM rfl (bI true rfl rfl (fun _=>ai Tryz.underlying22 tk52 rfl ((aJ.f_nodes (.of (ax 5 rfl)))) rfl (bN (i:=i) hi.2 hi.1) (by omega) rfl) (fun h=>absurd h (by decide)) (fun ⟨b3_3,o3_3⟩=>(UO 6 rfl rfl (US 6 tk45 0 rfl rfl rfl rfl rfl (aM rfl (bI true rfl rfl (fun _=>ai Tryz.underlying45 tk54 rfl ((aQ.f_refs (Ent.elt (aJ.f_nodesA (.of (ax 6 rfl))) (i:=i) hi.2 hi.1))) rfl (bN (i:=k) hk.2 hk.1) (by omega) rfl) (fun h=>absurd h (by decide)) (fun ⟨b3_7,o3_7⟩=>(US 0 tk54 0 rfl rfl rfl rfl rfl ?_)))))))))))))
  refine LT rfl (aW (zs:=[.int .i64 0,.int .i64 0,.int .i64 0,.int .i64 0,.int .i64 0,.int .i64 0,.int .i64 0]) (by kernel_rfl) rfl (fun b3_9=>(aHN ?_)))
  refine aT rfl (bX 2 tk54 rfl rfl rfl rfl (aHK ?_))
  refine aNs (DR [11] 12 (VO 0 0 rfl rfl rfl (VL 1 1 tk33 rfl rfl rfl rfl rfl (VM 2 rfl rfl (dz 3 rfl (by kernel_rfl) true rfl rfl (fun _=>ai Tryz.underlying33 tk3 rfl ((.of (ax 6 rfl))) rfl (ak ha) (by omega) rfl) (fun h=>absurd h (by decide)) (fun ⟨b4_3,o4_3⟩=>(VT 4 0 tk3 0 rfl rfl rfl rfl rfl rfl (VO 5 0 rfl rfl rfl (VL 6 2 tk3 rfl rfl rfl rfl rfl (bV 7 rfl rfl (bz rfl rfl (by omega)) (VL 8 2 tk54 rfl rfl rfl rfl rfl (bV 9 rfl rfl (bP (l:=[(0,.tmp 66),(1,.tmp 67)]) (zs:=[.int .i64 0,.int .i64 0,.int .i64 0,.int .i64 0,.int .i64 0,.int .i64 0,.int .i64 0,.int .i64 0]) (pl:=[(0,1),(1,7)]) (by kernel_rfl) (by kernel_rfl) (by kernel_rfl) rfl rfl rfl) (dG (q:=true) 10 rfl (by kernel_rfl) rfl rfl (aW (zs:=[.int .i64 0,.int .i64 0,.int .i64 0,.int .i64 0,.int .i64 0,.int .i64 0,.int .i64 0,.int .i64 0]) (by kernel_rfl) rfl (fun b4_10 => ?_)))))))))))))))
  refine bST rfl ?_
  refine dG 11 rfl (by kernel_rfl) rfl rfl (bX 3 tk67 rfl rfl rfl rfl (bST rfl ?_))
  refine BN (an (aq (aSR (UL 3 tk67 rfl rfl rfl rfl (UL 1 tk36 rfl rfl rfl rfl (aU rfl (Q1 rfl (jD (iN u l i k) l hcc) 7 rfl) (aU rfl (eJ rfl) (aNn ?_))))))))
  refine aa _ rfl (fun h2 => ?_) (fun h2 => ?_)
  ·skip
   have hnd:dt l.nodes.l (iN u l i k)=false:=by simpa using h2
   refine aSR (aA rfl (aA rfl (aNn (ae (aj (FZ2 [] Tryz.results14 rfl rfl ?_))))))
   exact ⟨⟨rfl,rfl⟩,-1,true,rfl,.inr ⟨hin,hcm,.inl ⟨hnd,rfl,rfl⟩⟩⟩
  ·skip
   have hnd:dt l.nodes.l (iN u l i k)=true:=by simpa using h2
   refine aD (an (aSR (UL 3 tk67 rfl rfl rfl rfl (UO 2 rfl rfl (UL 1 tk34 rfl rfl rfl rfl ?_)))))
   refine aU rfl (Q1 rfl (jC _ hcc l.stubs (fun s hs2=>by have:=hsb s hs2;omega)) 6 rfl) ?_
   refine aA rfl (aNn (aSR (aM rfl (aU rfl (zE rfl rfl) (aM rfl (aU rfl (eT rfl rfl) (aA rfl (aA rfl (aNn (ae (FZ2 [] Tryz.results14 rfl rfl ?_)))))))))))
   exact ⟨⟨rfl,rfl⟩,_,_,rfl,.inr ⟨hin,hcm,.inr ⟨hnd,rfl,rfl⟩⟩⟩
end Go.Proofs.YtgkbbdgklpabpaaGreatDoor

