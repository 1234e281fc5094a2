/- Parts of the proof, in build order. No condition. -/
import Derived.Test.YtfkcmbonmpcbfaaGreatTb17
import Derived.Test.YtfkcmbonmpcbfaaGreatTb19
import Derived.Test.YtfkcmbonmpcbfaaGreatTb05
import Derived.Test.YtfkcmbonmpcbfaaGreatTb10
import Derived.Test.YtfkcmbonmpcbfaaGreatTb04
import Derived.Test.YtfkcmbonmpcbfaaGreatTb06
import Derived.Lib.Hide
set_option linter.unusedSimpArgs false
set_option linter.unusedVariables false
set_option maxHeartbeats 1000000
set_option maxRecDepth 20000
namespace Go.Proofs.YtfkcmbonmpcbfaaGreat
open Go.RowKit Go.Lp Go.Sy Go.Lv
open Go.Proofs.Tryz
attribute [local irreducible] aL aB awp aC fwp Quiet
theorem xQ(n:Int)(hn:I64 n):Con Tryz.prog 244 [.int .i64 n,.int .i64 256] [] [] fun r _ _=>r=.int .i64 (fS n):=by
 refine EN2 Tryz.func244 rfl (aSR (aA rfl (aNs (aSR (aM rfl (aU rfl (bg rfl rfl) (aM rfl (aG rfl rfl (fun hc=>az rfl) (aG rfl rfl (fun hc=>dy (aa rfl hc) rfl) (aU rfl (cm rfl rfl (fun h=>gf rfl h)) (aM rfl (aG rfl rfl (fun hc=>az rfl) ?_))))))))))))
 refine aG rfl rfl (fun hc=>bg (aa rfl hc) rfl) (aU rfl (cm rfl rfl (fun h=>gf rfl h)) (aM rfl (aG rfl rfl (fun hc=>az rfl) (aG rfl rfl (fun hc=>dy (aa rfl hc) rfl) (aU rfl (cm rfl rfl (fun h=>gf rfl h)) (aNn ?_))))))
 refine ah _ rfl (fun h1 => ?_) (fun h1 => ?_)
 ·skip
  have hb:n < -1152921504606846976∨1152921504606846976<n:=by simp at h1;omega
  refine aSR (aM rfl (aA rfl (aNn (aj (aN (FZ1 [] Tryz.results244 rfl ?_))))))
  unfold fS;rw [if_pos hb]
 ·skip
  have hb:¬ (n < -1152921504606846976∨1152921504606846976<n):=by simp at h1;omega
  have ht:n.tmod 256=if n % 256=0∨0≤n then n % 256 else n % 256-256:=by
    have e:(256:Int).natAbs=256:=rfl
    rw [Int.tmod_eq_emod,e];split<;>split<;>omega
  refine ai (an (aSR (aM rfl (aM rfl (aU rfl (qq rfl rfl (by decide)) (aA rfl (aNs (aSR (aM rfl (aU rfl (bg rfl rfl) (aNn ?_)))))))))))
  refine ah _ rfl (fun h2 => ?_) (fun h2 => ?_)
  ·skip
   have hneg:n.tmod 256<0:=by simpa using h2
   have ht2:n.tmod 256+256=n % 256:=by rw [ht] at hneg ⊢;split at hneg<;>omega
   refine ae (aM rfl (aM rfl (aU rfl (aO rfl rfl (by omega)) (aA rfl (aNn (aSR (aM rfl (aM rfl (aU rfl (bN rfl rfl (by omega)) (aA rfl (aNn (aj (FZ1 [] Tryz.results244 rfl ?_)))))))))))))
   unfold fS;rw [if_neg hb,← ht2]
  ·skip
   have hneg:¬ n.tmod 256<0:=by simpa using h2
   have ht2:n.tmod 256=n % 256:=by rw [ht] at hneg ⊢;split at hneg<;>omega
   refine ai (an (aSR (aM rfl (aM rfl (aU rfl (bN rfl rfl (by omega)) (aA rfl (aNn (aj (FZ1 [] Tryz.results244 rfl ?_)))))))))
   unfold fS;rw [if_neg hb,← ht2]
theorem wm(n:Int)(hn:I64 n):Con Tryz.prog 141 [.int .i64 n,.int .i64 256] [] [] fun r _ _=>r=.int .i64 (upF n):=by
 have hd:fS n=n∨fS n≤1152921504606846976:=by unfold fS;split<;>omega
 have hd2:fS n≠n → -1152921504606846976-256≤fS n:=by unfold fS;split<;>omega
 refine EN2 Tryz.func141 rfl (aSR (aA rfl (aNs (aSR (aM rfl (aM rfl (aU rfl (Q0 rfl (xQ n hn)) (aA rfl (aNn (aSR (aM rfl (aM rfl (aU rfl (dS rfl rfl) (aNn ?_))))))))))))))
 refine ah _ rfl (fun h1 => ?_) (fun h1 => ?_)
 ·skip
  have hb:fS n≠n:=by simpa using h1
  have hd3:=hd2 hb
  refine aSR (aM rfl (aM rfl (aU rfl (aO rfl rfl (by omega)) (aA rfl (aNn (aj (aN (FZ1 [] Tryz.results141 rfl ?_))))))))
  unfold upF;rw [if_pos hb]
 ·skip
  have hb:¬ fS n≠n:=by simpa using h1
  refine ai (an (aSR (aM rfl (aA rfl (aNn (aj (FZ1 [] Tryz.results141 rfl ?_)))))))
  unfold upF;rw [if_neg hb]
theorem uJ(i n:Int)(hn:I64 n):Con Tryz.prog 140 [.int .i64 i,.int .i64 n] [] [] fun r _ _=>r=.bool (upB n):=by
 refine EN2 Tryz.func140 rfl (aSR (aA rfl (aNn (aSR (aM rfl (aU rfl (Q0 rfl (wm n hn)) (aM rfl (aU rfl (bw rfl rfl) (aA rfl (aNn (aj (FZ1 [] Tryz.results140 rfl ?_))))))))))))
 rfl
theorem fw(s:ByteArray)(hs:s.size≤maxLen):Con Tryz.prog 143 [.string s] [] [] fun r _ _=>r=.bool (dV s):=by
 have hok:∀ ps:List Per,Ent ps (aH.ok ⟨s,⟨none,0,[]⟩⟩):=fun ps w S hp=>⟨hs,ea.e none 0 (Nat.zero_le _),fun x hx=>by cases hx⟩
 refine EN1 Tryz.func143 rfl (aSR (aA rfl (aNn (aSR (aM rfl (aU rfl (gr (l:=[(0,.tmp 3)]) (zs:=[.string .empty,.slice none 0 0]) (pl:=[(0,1),(1,1)]) (by kernel_rfl) (by kernel_rfl) (by kernel_rfl) rfl rfl rfl) (LT rfl (WL (zs:=[.string .empty,.slice none 0 0]) el29 rfl rfl rfl (.more rfl (.v rfl (.v rfl .nil)) .nil) rfl rfl (fun v1_2=>(aHN ?_))))))))))
 refine kh 0 rfl ?_
 refine LT rfl (EC [0] [] rfl ((ny ⟨v1_2,1,[⟨s,⟨none,0,[]⟩⟩]⟩).pre (fun p hp=>by
   rcases List.mem_cons.1 hp with rfl | hp
   · exact .of (aF 0 rfl)
   · rw [List.mem_singleton.1 hp]
     exact fun w S hp x hx=>(by rw [List.mem_singleton.1 hx];exact hok _ w S hp))) ?_)
 rintro _ _ _ ⟨⟨rfl,rfl⟩,b,rfl,hb1,hb2⟩
 refine aST ?_
 refine aA rfl (aNn (aj (FZ1 [] Tryz.results143 rfl (congrArg Value.bool ?_))))
 cases hn:dV s with
 | true=>exact hb2 (jm.all ⟨Nat.le_refl _,fun d hd=>by rw [List.mem_singleton.1 hd];exact hn,fun d hd=>by rw [List.mem_singleton.1 hd]⟩)
 | false =>
   cases b with
   | false=>rfl
   | true=>have:=(hb1 rfl).nm _ (List.mem_singleton.2 rfl);rw [hn] at this;cases this
theorem iy(s:ByteArray)(hs:s.size≤maxLen):Con Tryz.prog 153 [.string s] [] [] fun r _ _=>r=.bool (kJ s):=by
 refine EN1 Tryz.func153 rfl (aSR (aA rfl (aNn (aSR (aM rfl (aU rfl (rH rfl rfl) (aM rfl (aG rfl rfl (fun hc=>az rfl) (aG rfl rfl (fun hc=>Q0 (ax (aa rfl hc) rfl) (fw s hs)) (aU rfl (cm rfl rfl (fun h=>gf rfl h)) (aA rfl (aNn (aj (FZ1 [] Tryz.results153 rfl ?_))))))))))))))
 rfl
theorem gS(s:ByteArray):Con Tryz.prog 163 [.string s] [] [] fun r _ _=>r=.bool (lN s):=by
 refine EN1 Tryz.func163 rfl (aSR (aA rfl (aNn (aSR (aM rfl (aU rfl (ep Tryz.underlying9 rfl) (aU rfl (dq rfl rfl) (aA rfl (aNn (aj (FZ1 [] Tryz.results163 rfl ?_)))))))))))
 rfl
theorem cB(n lo hi:Int):Con Tryz.prog 142 [.int .i64 n,.int .i64 lo,.int .i64 hi] [] [] fun r _ _=>r=.bool (fV n lo hi):=by
 refine EN3 Tryz.func142 rfl (aSR (aA rfl (aNn (aSR (aM rfl (aM rfl (aU rfl (dR rfl rfl) (aM rfl (aG rfl rfl (fun hc=>az rfl) (aG rfl rfl (fun hc=>az rfl) (aG rfl rfl (fun hc=>dq (aa rfl hc) (aa rfl hc)) (aU rfl (aQ rfl rfl (fun h=>gt rfl h)) (aA rfl (aNn (aj ?_)))))))))))))))
 refine FZ1 [] Tryz.results142 rfl ?_
 rfl
theorem xD(k:Int):Con Tryz.prog 99 [.int .i64 k] [] [] fun r _ _=>r=.bool (gm k):=by
 refine EN1 Tryz.func99 rfl (aSR (aA rfl (aNn (aSR (aM rfl (aU rfl (bw rfl rfl) (aM rfl (aG rfl rfl (fun hc=>az rfl) (aG rfl rfl (fun hc=>bw (aa rfl hc) rfl) (aU rfl (cm rfl rfl (fun h=>gf rfl h)) (aM rfl (aG rfl rfl (fun hc=>az rfl) (aG rfl rfl (fun hc=>bw (aa rfl hc) rfl) ?_)))))))))))))
 refine aU rfl (cm rfl rfl (fun h=>gf rfl h)) (aA rfl (aNn (aj (FZ1 [] Tryz.results99 rfl ?_))))
 rfl
theorem ns(k:Int):Con Tryz.prog 156 [.int .i64 k] [] [] fun r _ _=>r=.int .i64 (dg k):=by
 refine EN1 Tryz.func156 rfl (aSR (aA rfl (aNs (aSR (aM rfl (aU rfl (bw rfl rfl) (aM rfl (aG rfl rfl (fun hc=>az rfl) (aG rfl rfl (fun hc=>bw (aa rfl hc) rfl) (aU rfl (cm rfl rfl (fun h=>gf rfl h)) (aNn ?_)))))))))))
 refine ah _ rfl (fun h1 => ?_) (fun h1 => ?_)
 ·skip
  refine aSR (aA rfl (aNn (aj (aN (FZ1 [] Tryz.results156 rfl ?_)))))
  unfold dg;rw [if_pos h1]
 ·skip
  refine ai (an (aSR (aA rfl (aNn (aj (FZ1 [] Tryz.results156 rfl ?_))))))
  unfold dg;rw [if_neg (by rw [h1];decide)]
theorem con_instr(im:ak)(hc:0≤im.code∧im.code≤9223372036854775807)(n:Int):Con Tryz.prog 147 [im.val,.int .i64 n] [] [] fun r _ _=>r=.bool (instrB im.code n):=by
 refine EN2 Tryz.func147 rfl (aSR (LT rfl (bz rfl rfl rfl (fun b0_0=>(aHN ?_)))))
 refine aA rfl (aNn (aSR (aM rfl (UO 2 rfl rfl (UL 0 tk3 rfl rfl rfl rfl (aU rfl (bN rfl rfl (by omega)) (aU rfl (Q0 rfl (cB n 0 (im.code-8))) (aM rfl (aG rfl rfl (fun hc=>az rfl) (aG rfl rfl (fun hc=>qq (aa rfl hc) rfl (by decide)) (aG rfl rfl (fun hc=>bw (aa rfl hc) rfl) (aU rfl (aQ rfl rfl (fun h=>gt rfl h)) (aA rfl (aNn (aj ?_)))))))))))))))
 refine FZ1 [] Tryz.results147 rfl ?_
 rfl
theorem xL(im:ak)(hn:im.name.size≤maxLen)(hi:I64 im.code∧I64 im.data∧I64 im.zero):Con Tryz.prog 65 [im.val] [] [] fun r _ _=>r=.bool (lO im):=by
 refine EN1 Tryz.func65 rfl (aSR (LT rfl (bz rfl rfl rfl (fun b0_0=>(aHN ?_)))))
 refine aA rfl (aNn (aSR (UO 2 rfl rfl (UL 0 tk3 rfl rfl rfl rfl (UO 3 rfl rfl (UL 0 tk3 rfl rfl rfl rfl (UO 4 rfl rfl (UL 0 tk3 rfl rfl rfl rfl (LT rfl (WL (zs:=[.int .i64 0]) el26 rfl rfl rfl (.more rfl (.v rfl .nil) (.more rfl (.v rfl .nil) (.more rfl (.v rfl .nil) .nil))) rfl rfl (fun v1_6=>(aHN ?_))))))))))))
 refine kh 1 rfl ?_
 refine LT rfl (EC [0,0] [] rfl ((ix ⟨v1_6,3,[im.code,im.data,im.zero]⟩ 140 [] (ShF (fun z=>[.v (.int .i64 z)]) ⟨v1_6,3,[im.code,im.data,im.zero]⟩) (fun _ n=>upB n) (by kernel_rfl) (fun i a ha=>(uJ i a (by
   have:=List.mem_of_getElem? ha
   simp at this
   rcases this with rfl | rfl | rfl
   · exact hi.1
   · exact hi.2.1
   · exact hi.2.2)).pre (fun _ h=>by cases h)))) ?_)
 rintro _ _ _ ⟨rfl,rfl,rfl⟩
 refine aST ?_
 refine aA rfl (aNn (aSR (aM rfl (aM rfl (GO 2 rfl rfl rfl (GL 0 tk3 rfl rfl rfl rfl rfl (aG rfl rfl (fun hc=>dq rfl (aa rfl hc)) (aU rfl (aQ rfl rfl (fun h=>gt rfl h)) (aM rfl (GO 2 rfl rfl rfl (GL 0 tk3 rfl rfl rfl rfl rfl (GO 3 rfl rfl rfl ?_))))))))))))
 refine GL 0 tk3 rfl rfl rfl rfl rfl (aG rfl rfl (fun hc=>dq (aa rfl hc) (aa rfl hc)) (aU rfl (aQ rfl rfl (fun h=>gt rfl h)) (aM rfl (GO 3 rfl rfl rfl (GL 0 tk3 rfl rfl rfl rfl rfl (GO 4 rfl rfl rfl (GL 0 tk3 rfl rfl rfl rfl rfl (aG rfl rfl (fun hc=>dq (aa rfl hc) (aa rfl hc)) (aU rfl (aQ rfl rfl (fun h=>gt rfl h)) (aM rfl (GO 4 rfl rfl rfl (GL 0 tk3 rfl rfl rfl rfl rfl (aG rfl rfl (fun hc=>dq (aa rfl hc) rfl) (aU rfl (aQ rfl rfl (fun h=>gt rfl h)) (aM rfl ?_)))))))))))))))
 refine GO 5 rfl rfl rfl (GL 0 tk9 rfl rfl rfl rfl rfl (aG rfl rfl (fun hc=>ep Tryz.underlying9 (aa rfl hc)) (GO 3 rfl rfl rfl (GL 0 tk3 rfl rfl rfl rfl rfl (aG rfl rfl (fun hc=>bw (aa rfl hc) (aa rfl hc)) (aU rfl (aQ rfl rfl (fun h=>gt rfl h)) (aM rfl (GO 7 rfl rfl rfl (GL 0 tk3 rfl rfl rfl rfl rfl (GO 6 rfl rfl rfl (GL 0 tk9 rfl rfl rfl rfl rfl (aG rfl rfl (fun hc=>ep Tryz.underlying9 (aa rfl hc)) (aG rfl rfl (fun hc=>dQ (by kernel_rfl) (ax (aa rfl hc) (ax (aa rfl hc) (ax (aa rfl rfl) rfl))) (fun w S fp hst=>(cB _ _ _).quiet0 hst)) (aU rfl (aQ rfl rfl (fun h=>gt rfl h)) (aM rfl ?_)))))))))))))))
 refine GO 0 rfl rfl rfl (GL 0 tk9 rfl rfl rfl rfl rfl (aG rfl rfl (fun hc=>Q0 (ax (aa rfl hc) rfl) (fw _ hn)) (aU rfl (aQ rfl rfl (fun h=>gt rfl h)) (aA rfl (aNn (aj (FZ1 [] Tryz.results65 rfl (congrArg Value.bool ?_))))))))
 unfold lO
 simp [allI]
theorem aaZ{n:Int}(h:0≤n)(h2:n≤1152921504606846976):upF n=n↔n % 256=0:=by
 have hd:fS n=n-n % 256:=by unfold fS;rw [if_neg (by omega)]
 unfold upF
 rw [hd]
 split<;>omega
theorem uP(a:Ar)(ha:I64 a.at_):Con Tryz.prog 190 [zd a] [] [] fun r _ _=>r=.bool (dK a):=by
 refine EN1 Tryz.func190 rfl (aSR (LT rfl (bz rfl rfl rfl (fun b0_0=>(aHN ?_)))))
 refine aA rfl (aNs (DR [] 17 (VO 0 0 rfl rfl rfl (VL 1 0 tk3 rfl rfl rfl rfl rfl (bV 2 rfl rfl (dR rfl rfl) (VM 3 rfl rfl (bW 4 rfl rfl rfl (fun hc=>qFA (off:=0) rfl) (bW 5 rfl rfl rfl (fun hc=>bJ 0 tk3 (aa rfl hc) rfl rfl) (bW 6 rfl rfl rfl (fun hc=>bg (aa rfl hc) rfl) (bV 7 rfl rfl (aQ rfl rfl (fun h=>gt rfl h)) (VM 8 rfl rfl (bW 9 rfl rfl rfl (fun hc=>qFA (off:=0) rfl) (bW 10 rfl rfl rfl (fun hc=>bJ 0 tk3 (aa rfl hc) rfl rfl) (bW 11 rfl rfl rfl (fun hc=>Q0 (ax (aa rfl hc) (ax (aa rfl rfl) rfl)) (wm a.at_ ha)) (bW 12 rfl rfl rfl (fun hc=>qFA (off:=0) rfl) ?_)))))))))))))))
 refine bW 13 rfl rfl rfl (fun hc=>bJ 0 tk3 (aa rfl hc) rfl rfl) (bW 14 rfl rfl rfl (fun hc=>bw (aa rfl hc) (aa rfl hc)) (bV 15 rfl rfl (aQ rfl rfl (fun h=>gt rfl h)) (bV 16 rfl rfl (bB rfl) (BN (an (aSR (aM rfl (aM rfl (GO 1 rfl rfl rfl (GL 0 tk3 rfl rfl rfl rfl rfl (aG rfl rfl (fun hc=>dR (aa rfl hc) rfl) (aU rfl (aQ rfl rfl (fun h=>gt rfl h)) (aM rfl (GO 1 rfl rfl rfl ?_))))))))))))))
 refine GL 0 tk3 rfl rfl rfl rfl rfl (aG rfl rfl (fun hc=>dq (aa rfl hc) rfl) (aU rfl (aQ rfl rfl (fun h=>gt rfl h)) (aM rfl (GO 0 rfl rfl rfl (GL 0 tk3 rfl rfl rfl rfl rfl (GO 1 rfl rfl rfl (GL 0 tk3 rfl rfl rfl rfl rfl ?_)))))))
 refine aG rfl rfl (fun hc=>aO (aa rfl hc) (aa rfl hc) (by (first | omega | (simp at hc;omega)))) ?_
 refine aG rfl rfl (fun hc=>dq (aa rfl hc) rfl) (aU rfl (aQ rfl rfl (fun h=>gt rfl h)) (aM rfl (GO 2 rfl rfl rfl (GL 0 tk3 rfl rfl rfl rfl rfl (aG rfl rfl (fun hc=>dR (aa rfl hc) rfl) (aU rfl (aQ rfl rfl (fun h=>gt rfl h)) (aM rfl (GO 2 rfl rfl rfl (GL 0 tk3 rfl rfl rfl rfl rfl (aG rfl rfl (fun hc=>bg (aa rfl hc) rfl) (aU rfl (aQ rfl rfl (fun h=>gt rfl h)) (aA rfl (aNn (aj (FZ1 [] Tryz.results190 rfl ?_)))))))))))))))
 congr 1
 rw [Bool.eq_iff_iff,b8]
 simp only [Bool.and_eq_true,decide_eq_true_eq]
 constructor
 · rintro ⟨⟨⟨⟨⟨⟨⟨h1,h2⟩,h3⟩,h4⟩,h5⟩,h6⟩,h7⟩,h8⟩
   exact ⟨h1,h2,(aaZ (by omega) (by omega)).1 h3,h4,h5,h6,h7,h8⟩
 · rintro ⟨h1,h2,h3,h4,h5,h6,h7,h8⟩
   exact ⟨⟨⟨⟨⟨⟨⟨h1,h2⟩,(aaZ (by omega) (by omega)).2 h3⟩,h4⟩,h5⟩,h6⟩,h7⟩,h8⟩
theorem w6{α β γ:Type}(f:α→β→γ)(l:List α)(m:List β){x:α}{y:β}(h:m.length=l.length)(k:Nat):List.zipWith f (l.take k++x::l.drop k) (m.take k++y::m.drop k)=(List.zipWith f l m).take k++f x y::(List.zipWith f l m).drop k:=by
 rw [List.zipWith_append (by simp [h]),List.zipWith_cons_cons,List.take_zipWith,List.drop_zipWith]
theorem wN{α:Type}{l:List α}{k:Nat}(h:k≤l.length){x y:α} : (l.take k++x::l.drop k).set k y=l.take k++y::l.drop k:=by
 rw [List.set_append_right _ _ (by rw [List.length_take];omega),show k-(l.take k).length=0 by rw [List.length_take];omega];rfl
theorem qw{w:World}{S:aT} : ∀ (L:List Res) (k:Nat) (F:aT),(bT L).holds w S F→(bT (L.take k++emp::L.drop k)).holds w S F
 | [],k,F,h=>by rw [List.take_nil,List.drop_nil];exact oK h
 | A::L,0,F,h=>oK h
 | A::L,k+1,F,h=>et h fun F h=>qw L k F h
theorem xO(p:Nat)(M:Mem)(vs:List Value)(hvs:OkV M vs)(v:Value)(a:Ar)(ha:I64 a.at_)(hM:dI M)(hl:M.length≤4096) :
   Con Tryz.prog 79 [.pointer (some ⟨p,0,none⟩),zd a] [] (opn p v M vs) fun r ps hp=>∃ (M':Mem) (v':Value) (vs':List Value) (L:List Res),vs'.length=M'.length∧hp=opn p v' M' vs'++L∧(ps=[]∧L=[]∧M'=(mapM M a).1∧r=.int .i64 (mapM M a).2):=by
 have hlr:=eO hvs.len
 obtain ⟨y,hy⟩:∃ f:Nat→Cell,∀ j,j<M.length→M[j]? = some (f j):=⟨fun j=>M[j]?.getD ⟨default,[]⟩,fun j hj=>by simp [hj]⟩
 obtain ⟨u,hu⟩:∃ f:Nat→Value,∀ j,j<M.length→vs[j]? = some (f j):=⟨fun j=>vs[j]?.getD default,fun j hj=>by simp [show j<vs.length by have:=hvs.len;omega]⟩
 refine EN2 Tryz.func79 rfl (aSR (LT rfl (bz rfl rfl rfl (fun b0_0=>(aHN ?_)))))
 refine aA rfl (aNs (aSR (UL 3 tk68 rfl rfl rfl rfl (aU rfl (Q0 rfl (uP a ha)) (aU rfl (bY rfl) (aNn ?_))))))
 refine ah _ rfl (fun h1 => ?_) (fun h1 => ?_)
 ·skip
  have hr:dK a=false:=by simpa using h1
  refine aSR (aA rfl (aNn (aj (aN (FZ1 [0,1,2] Tryz.results79 rfl ?_)))))
  refine ⟨M,v,vs,[],hvs.len,rfl,rfl,rfl,?_⟩
  unfold mapM;rw [if_pos hr];exact ⟨rfl,rfl⟩
 ·skip
  have hr:dK a=true:=by simpa using h1
  have hA:=b8.1 hr
  refine ai (an (aSR (aM rfl (UO 0 rfl rfl (UL 3 tk3 rfl rfl rfl rfl (LF rfl (EC [] [0,1] rfl (iz p M vs hvs v a.at_ hM hl) ?_)))))))
  rintro _ _ _ ⟨rfl,rfl,k,hk,rfl⟩
  refine aST ?_
  have hkl:=hk.le
  have hmt:M.any (meets a)=true↔(j0 M a.at_ k=true∨(k<M.length∧(y k).1.at_<a.at_+a.size)∨(0<k∧a.at_<(y (k-1)).1.at_+(y (k-1)).1.size)):=by
    rw [hM.meet (by omega) hk]
    refine or_congr_right (or_congr ⟨fun ⟨x,hx,h⟩ => ?_,fun ⟨h1,h2⟩=>⟨_,hy k h1,h2⟩⟩ ⟨fun ⟨j,x,hj,hx,h⟩ => ?_,fun ⟨h1,h2⟩=>⟨k-1,_,by omega,hy (k-1) (by omega),h2⟩⟩)
    · have h1:=(List.getElem?_eq_some_iff.1 hx).1
      rw [hy k h1] at hx;cases hx;exact ⟨h1,h⟩
    · subst hj
      rw [show j+1-1=j by omega]
      rw [hy j (by omega)] at hx;cases hx;exact ⟨by omega,h⟩
  refine aM rfl (aU rfl (aK rfl rfl) (aU rfl (aK rfl rfl) (aA rfl (aA rfl (aNs (aq (DR [] 57 (VM 0 rfl rfl (VM 1 rfl rfl (bW 2 rfl rfl rfl (fun hc=>az rfl) (bW 3 rfl rfl rfl (fun hc=>az rfl) (bW 4 rfl rfl rfl (fun hc=>cH (aa rfl hc)) (bW 5 rfl rfl rfl (fun hc=>qFA (off:=0) (aa rfl hc)) (bW 6 rfl rfl rfl (fun hc=>bJ 0 tk115 (aa rfl hc) rfl rfl) (bW 7 rfl rfl rfl (fun hc=>dF 1 Tryz.underlying115 (aa rfl hc) rfl) ?_)))))))))))))))
  refine bW 8 rfl rfl rfl (fun hc=>bg (aa rfl hc) (aa rfl hc)) (bW 9 rfl rfl rfl (fun hc=>az (aa rfl hc)) (bW 10 rfl rfl rfl (fun hc=>az rfl) (bW 11 rfl rfl rfl (fun hc=>cH (aa rfl hc)) (bW 12 rfl rfl rfl (fun hc=>qFA (off:=0) (aa rfl hc)) (bW 13 rfl rfl rfl (fun hc=>bJ 0 tk115 (aa rfl hc) rfl rfl) (bW 14 rfl rfl rfl (fun hc=>az rfl) ?_))))))
  refine bW 15 rfl rfl rfl (fun hc=>bE 1 k el115 (aa rfl hc) rfl (aa rfl hc) rfl (by rw [hlr];simp [hlr] at hc;omega)) ?_
  refine bW 16 rfl rfl rfl (fun hc=>qFA (off:=0) (aa rfl hc)) (bW 17 rfl rfl rfl (fun hc=>qFA (off:=0) (aa rfl hc)) ?_)
  refine bW 18 rfl rfl rfl (fun hc=>bb 1 k 0 tk3 (aa rfl hc) rfl (eo (hy k (by simp [hlr] at hc;omega)) (hu k (by simp [hlr] at hc;omega))) rfl rfl) ?_
  refine bW 19 rfl rfl rfl (fun hc=>qFA (off:=0) rfl) (bW 20 rfl rfl rfl (fun hc=>bJ 3 tk3 (aa rfl hc) rfl rfl) (bW 21 rfl rfl rfl (fun hc=>qFA (off:=1) rfl) (bW 22 rfl rfl rfl (fun hc=>bJ 3 tk3 (aa rfl hc) rfl rfl) ?_)))
  refine bW 23 rfl rfl rfl (fun hc=>aO (aa rfl hc) (aa rfl hc) (by (first | omega | (simp at hc;omega)))) ?_
  refine bW 24 rfl rfl rfl (fun hc=>bg (aa rfl hc) (aa rfl hc)) (bW 25 rfl rfl rfl (fun hc=>aQ (aa rfl hc) rfl (fun h=>gt hc h)) (bV 26 rfl rfl (cm rfl rfl (fun h=>gf rfl h)) (VM 27 rfl rfl (bW 28 rfl rfl rfl (fun hc=>az rfl) (bW 29 rfl rfl rfl (fun hc=>dy (aa rfl hc) rfl) (bW 30 rfl rfl rfl (fun hc=>az (aa rfl hc)) (bW 31 rfl rfl rfl (fun hc=>az rfl) (bW 32 rfl rfl rfl (fun hc=>cH (aa rfl hc)) (bW 33 rfl rfl rfl (fun hc=>qFA (off:=0) (aa rfl hc)) (bW 34 rfl rfl rfl (fun hc=>bJ 0 tk115 (aa rfl hc) rfl rfl) (bW 35 rfl rfl rfl (fun hc=>az rfl) ?_)))))))))))
  refine bW 36 rfl rfl rfl (fun hc=>bN (aa rfl hc) rfl (by (first | omega | (simp at hc;omega)))) ?_
  refine bW 37 rfl rfl rfl (fun hc=>bE 1 (k-1) el115 (aa rfl hc) rfl (aa rfl hc) (by simp [hlr] at hc;omega) (by rw [hlr];simp [hlr] at hc;omega)) ?_
  refine bW 38 rfl rfl rfl (fun hc=>qFA (off:=0) (aa rfl hc)) (bW 39 rfl rfl rfl (fun hc=>qFA (off:=0) (aa rfl hc)) ?_)
  refine bW 40 rfl rfl rfl (fun hc=>bb 1 (k-1) 0 tk3 (aa rfl hc) rfl (eo (hy (k-1) (by simp [hlr] at hc;omega)) (hu (k-1) (by simp [hlr] at hc;omega))) rfl rfl) ?_
  refine bW 41 rfl rfl rfl (fun hc=>az rfl) (bW 42 rfl rfl rfl (fun hc=>cH (aa rfl hc)) (bW 43 rfl rfl rfl (fun hc=>qFA (off:=0) (aa rfl hc)) (bW 44 rfl rfl rfl (fun hc=>bJ 0 tk115 (aa rfl hc) rfl rfl) (bW 45 rfl rfl rfl (fun hc=>az rfl) ?_))))
  refine bW 46 rfl rfl rfl (fun hc=>bN (aa rfl hc) rfl (by (first | omega | (simp at hc;omega)))) ?_
  refine bW 47 rfl rfl rfl (fun hc=>bE 1 (k-1) el115 (aa rfl hc) rfl (aa rfl hc) (by simp [hlr] at hc;omega) (by rw [hlr];simp [hlr] at hc;omega)) ?_
  refine bW 48 rfl rfl rfl (fun hc=>qFA (off:=0) (aa rfl hc)) (bW 49 rfl rfl rfl (fun hc=>qFA (off:=1) (aa rfl hc)) ?_)
  refine bW 50 rfl rfl rfl (fun hc=>bb 1 (k-1) 1 tk3 (aa rfl hc) rfl (eo (hy (k-1) (by simp [hlr] at hc;omega)) (hu (k-1) (by simp [hlr] at hc;omega))) rfl rfl) ?_
  refine bW 51 rfl rfl rfl (fun hc=>aO (aa rfl hc) (aa rfl hc) (by have:=hM.ok (hy (k-1) (by simp [hlr] at hc;omega));omega)) ?_
  refine bW 52 rfl rfl rfl (fun hc=>qFA (off:=0) rfl) (bW 53 rfl rfl rfl (fun hc=>bJ 3 tk3 (aa rfl hc) rfl rfl) (bW 54 rfl rfl rfl (fun hc=>dy (aa rfl hc) (aa rfl hc)) (bW 55 rfl rfl rfl (fun hc=>aQ (aa rfl hc) rfl (fun h=>gt hc h)) (bV 56 rfl rfl (cm rfl rfl (fun h=>gf rfl h)) (BN (an ?_))))))
  refine ah _ rfl (fun h2 => ?_) (fun h2 => ?_)
  ·skip
   have hany:M.any (meets a)=true:=hmt.2 (by simp [hlr,or_assoc] at h2;exact h2)
   refine aSR (aA rfl (aNn (aj (aN (FZ1 [0,1,2] Tryz.results79 rfl ?_)))))
   refine ⟨M,v,vs,[],hvs.len,rfl,rfl,rfl,?_⟩
   unfold mapM;rw [if_neg (by rw [hr];decide),if_pos hany];exact ⟨rfl,rfl⟩
  ·skip
   have hany:¬ M.any (meets a)=true:=fun hh=>by
     simp [hlr] at h2
     rcases hmt.1 hh with h | ⟨h3,h4⟩ | ⟨h3,h4⟩
     · rw [h] at h2;exact absurd h2.1.1 (by decide)
     · have:=h2.1.2 h3;omega
     · have:=h2.2 h3;omega
   refine ai (an (aq (aSR (aM rfl (UN rfl rfl (UO 0 rfl rfl (UL 0 tk115 rfl rfl rfl rfl (aU rfl (dF 1 Tryz.underlying115 rfl rfl) (aU rfl (dR rfl rfl) (aNn ?_))))))))))
   refine ah _ rfl (fun h3 => ?_) (fun h3 => ?_)
   ·skip
    refine aSR (aA rfl (aNn (aj (aN (FZ1 [0,1,2] Tryz.results79 rfl ?_)))))
    refine ⟨M,v,vs,[],hvs.len,rfl,rfl,rfl,?_⟩
    unfold mapM;rw [if_neg (by rw [hr];decide),if_neg hany,if_pos (by simp [hlr] at h3;omega)];exact ⟨rfl,rfl⟩
   ·skip
    refine ai (an (aq ?_))
    rw [kN]
    refine DC [12,15] [15] [p,b0_0] 16 (CF 0 rfl rfl rfl (az rfl) (CF 1 rfl rfl rfl (az rfl) (CF 2 rfl rfl rfl (cH rfl) (CF 3 rfl rfl rfl (qFA (off:=0) rfl) ?_))))
    refine dt 4 0 rfl (by kernel_rfl) true rfl rfl (by simp) tk115 (fun _=>rfl) rfl rfl ?_
    refine CF 5 rfl rfl rfl (az rfl) ?_
    refine dt 6 3 rfl (by kernel_rfl) true rfl rfl (by simp) tk68 (fun _=>rfl) rfl rfl ?_
    refine CF 7 rfl rfl rfl (qFA (off:=1) rfl) ?_
    refine dt 8 3 rfl (by kernel_rfl) true rfl rfl (by simp) tk3 (fun _=>rfl) rfl rfl ?_
    refine cr 9 [] (by kernel_rfl) (bD ?_ bX)
    refine c7 9 rfl rfl (Eff.x (id (fR (m:=a.size.toNat) (zs:=[.int .u8 0]) el89 (by kernel_rfl) rfl (by decide) (dv rfl (by omega)) (dv rfl (by omega)) (by omega) rfl (fun v8_9=>(CST ?_)))))
    refine CF 10 rfl rfl rfl (gr (l:=[(0,.tmp 86),(1,.tmp 89)]) (zs:=[.int .i64 0,.int .i64 0,.int .i64 0,.int .i64 0,.int .i64 0,.slice none 0 0]) (pl:=[(0,5),(5,1)]) (by kernel_rfl) (by kernel_rfl) (by kernel_rfl) rfl rfl rfl) ?_
    refine cr 11 [] (by kernel_rfl) (bD ?_ bX)
    refine c7 11 rfl rfl (Eff.x (id (WL (zs:=[.int .i64 0,.int .i64 0,.int .i64 0,.int .i64 0,.int .i64 0,.slice none 0 0]) el115 rfl rfl rfl (.more rfl (.v rfl (.v rfl (.v rfl (.v rfl (.v rfl (.v rfl .nil)))))) .nil) rfl rfl (fun v8_11=>(CST ?_)))))
    refine cr 12 [] (by kernel_rfl) (bD ?_ bX)
    refine c7 12 rfl rfl (Eff.framed (q:=false) [1,5] rfl rfl (gF 0 rfl rfl (gF 3 rfl rfl oX)) ?_)
    refine id (EC [] [0,1] rfl (qZ v (rE M vs) v8_11 k (rD a (.slice v8_9 a.size.toNat a.size.toNat)) (by rw [oz hvs.len];exact hkl) (by rw [oz hvs.len];omega) rfl) ?_)
    rintro _ _ _ ⟨rfl,ad8,c8,rfl,rfl⟩
    refine i7 (CST ?_)
    refine CF 13 rfl rfl rfl (cH rfl) (CF 14 rfl rfl rfl (qFA (off:=0) rfl) ?_)
    refine cr 15 [] (by kernel_rfl) (bD ?_ bX)
    refine c7 15 rfl rfl (Eff.wild (q:=false) (id (aW 0 tk115 rfl rfl rfl rfl (CST ?_))))
    refine fg (by kernel_rfl) (an (aSR (aA rfl (aNn (fH 2 (bT ((eG M vs).take k++emp::(eG M vs).drop k)) rfl (fun w S F h=>qw _ _ _ h) ?_)))))
    refine jr (StE.toStars (R:=aaz (a,List.replicate a.size.toNat 0) (.slice v8_9 a.size.toNat a.size.toNat)) 4 2 k (L:=(eG M vs).take k++aaz (a,List.replicate a.size.toNat 0) (.slice v8_9 a.size.toNat a.size.toNat)::(eG M vs).drop k) (by unfold aaz;rw [List.map_replicate];rfl) (by rw [wN (by rw [iX hvs.len];exact hkl)];rfl) (by rw [List.length_append,List.length_cons,List.length_take,iX hvs.len];omega) rfl) ?_
    rw [wN (by rw [iX hvs.len];exact hkl)]
    refine aj (FZ1 [0,1,4] Tryz.results79 rfl ?_)
    refine ⟨M.take k++(a,List.replicate a.size.toNat 0)::M.drop k,.slice ad8 ((rE M vs).length+1) c8,vs.take k++.slice v8_9 a.size.toNat a.size.toNat::vs.drop k,[],by have:=hvs.len;simp;omega,?_,rfl,rfl,?_⟩
    · unfold opn
      rw [kN,show eG (M.take k++(a,List.replicate a.size.toNat 0)::M.drop k) (vs.take k++.slice v8_9 a.size.toNat a.size.toNat::vs.drop k)=_ from w6 _ _ _ hvs.len k,show rE (M.take k++(a,List.replicate a.size.toNat 0)::M.drop k) (vs.take k++.slice v8_9 a.size.toNat a.size.toNat::vs.drop k)=_ from w6 _ _ _ hvs.len k]
      rfl
    · have hc:=dI.cut hk
      unfold mapM;rw [if_neg (by rw [hr];decide),if_neg hany,if_neg (by simp [hlr] at h3;omega),hc.1,hc.2,List.append_assoc];exact ⟨rfl,rfl⟩
def abY(a:Ar):List D:=[.v (.int .i64 a.at_),.v (.int .i64 a.size),.v (.int .i64 a.kind),.v (.int .i64 a.owner),.v (.int .i64 a.mod)]
def gG(M:Mem):List (List D):=M.map fun x=>abY x.1
theorem sI(p:Nat)(M:Mem)(vs:List Value)(hvs:OkV M vs)(v:Value)(hM:dI M)(hl:M.length≤4096) :
   Con Tryz.prog 27 [.pointer (some ⟨p,0,none⟩)] [] (op2 p v M vs) fun r ps hp=>ps=[]∧∃ ad c,r=.slice ad M.length c∧hp=op2 p v M vs++[aD (.slice ad M.length c) 68 5 (gG M)]:=by
 have hlr:=eO hvs.len
 refine EN1 Tryz.func27 rfl (aSR (aA rfl (aNn (aSR (aA rfl (aNs (aSR (aM rfl (UN rfl rfl (UO 0 rfl rfl ?_))))))))))
 refine UL 0 tk115 rfl rfl rfl rfl (aU rfl (dF 1 Tryz.underlying115 rfl rfl) (aM rfl (aNn (ao (ew 68 5 ?_)))))
 refine aR [0,3,9,10,11] [] [0,1,2] (fun (k:Nat) s=>k≤M.length∧∃ ad c,s=⟨[(0,true,.pointer (some ⟨p,0,none⟩)),(3,true,.slice ad k c),(9,true,v),(10,true,.int .i64 M.length),(11,true,.int .i64 k)],[],op2 p v M vs++[aD (.slice ad k c) 68 5 (gG (M.take k))]⟩) (fun k=>M.length-k) rfl (⟨0,Nat.zero_le _,none,0,by rw [hlr];rfl⟩) ?_
 rintro k s ⟨hk,ad,c,rfl⟩
 refine aSR (aU rfl (bg rfl rfl) (aNs ?_))
 refine ah _ rfl (fun h1 => ?_) (fun h1 => ?_)
 ·skip
  have hk':k<M.length:=by simpa using h1
  obtain ⟨q,hq⟩:∃ q,M[k]? = some q:=⟨M[k]'hk',by simp⟩
  obtain ⟨u,hu⟩:∃ u,vs[k]? = some u:=⟨_,List.getElem?_eq_getElem (by have:=hvs.len;omega)⟩
  obtain ⟨ad0,cu,rfl⟩:=hvs.sl hq hu
  have hsk:gG (M.take (k+1))=gG (M.take k)++[abY q.1]:=by unfold gG;rw [List.take_add_one,hq];simp
  have hlk:(gG (M.take k)).length=k:=by unfold gG;rw [List.length_map,List.length_take];omega
  refine ai (an (aq (ao (aSR ?_))))
  refine aU rfl (bE 1 k el115 rfl rfl rfl rfl (by rw [hlr];exact hk')) ?_
  refine aU rfl (bb 1 k 0 tk135 rfl rfl (eo hq hu) rfl rfl) (LT rfl (bt (zs:=[.int .i64 0,.int .i64 0,.int .i64 0,.int .i64 0,.int .i64 0,.slice none 0 0]) (by kernel_rfl) rfl (fun b4_2=>(aHN ?_))))
  refine aI rfl (aW 3 tk135 rfl rfl rfl rfl (aHK ?_))
  refine aNn (ae (aM rfl (UO 0 rfl rfl (UL 3 tk68 rfl rfl rfl rfl (LT rfl (WL (zs:=[.int .i64 0,.int .i64 0,.int .i64 0,.int .i64 0,.int .i64 0]) el71 rfl rfl rfl (.more rfl (.v rfl (.v rfl (.v rfl (.v rfl (.v rfl .nil))))) .nil) rfl rfl (fun v5_3=>(aHN ?_))))))))
  refine aI rfl (cJ 2 el71 rfl rfl rfl rfl (dY 4 el71 rfl (by simp)) (by first | assumption | simp) (by simp;omega) (k+1) (by simp [hlk]) (fun v5_4 c5_4 => ?_))
  refine aHK ?_
  refine aA rfl (bK (bo (an (ae (aU rfl (aO rfl rfl (by omega)) (aM rfl (aNn ?_)))))))
  refine ⟨[0,3,9,10,11],[],[0,1,2],rfl,?_⟩
  refine ⟨k+1,⟨by omega,v5_4,c5_4,?_⟩,by omega⟩
  rw [hsk];rfl
 ·skip
  refine aS (aV (aV (ba (an (aSR (aM rfl (aA rfl (aNn (aj (FZ1 [0,1,2] Tryz.results27 rfl ?_))))))))))
  have e:k=M.length:=by simp at h1;omega
  subst e
  exact ⟨rfl,ad,c,rfl,by rw [List.take_length];rfl⟩
theorem ac0{p:Nat}{w:World}{S F:aT}(h:(Box p 117 [.slice none 0 0]).holds w S F):(SpR p []).holds w S F :=
 ⟨.slice none 0 0,[],rfl,F,fun _=>False,h,⟨fun _=>False,fun _=>False,.inl ⟨rfl,rfl,fun _ h=>h⟩,fun _ h=>h,fun _ h=>h.elim,fun _=>⟨.inl,fun h=>h.elim id id⟩⟩,fun _ _ h=>h,fun _=>⟨.inl,fun h=>h.elim id False.elim⟩⟩
theorem pT:Con Tryz.prog 14 [] [] [] fun r ps' hp'=>ps'=[]∧∃ p,r=.pointer (some ⟨p,0,none⟩)∧hp'=[SpR p []]:=by
 refine Con.enter Tryz.func14 rfl (by simp [Tryz.ntmps14]) ?_
 show awp _ _ _ _ ⟨[],_,_⟩
 refine aSR (aA rfl (aNn (aSR (aU rfl (gr (l:=[]) (zs:=[.slice none 0 0]) (pl:=[(0,1)]) (by kernel_rfl) (by kernel_rfl) (by kernel_rfl) rfl rfl rfl) (LT rfl (bz rfl rfl rfl (fun b1_1=>(aHN ?_))))))))
 refine aA rfl (aNn (fH 0 (SpR b1_1 []) rfl (fun w S F h=>ac0 h) (aj (FZ1 [0] Tryz.results14 rfl ?_))))
 exact ⟨rfl,_,rfl,rfl⟩
end Go.Proofs.YtfkcmbonmpcbfaaGreat

namespace Go.Sy
open Go.RowKit
end Go.Sy
namespace Go.Proofs.YtfkcmbonmpcbfaaGreat
open Go.RowKit Go.Lp Go.Sy Go.Lv
open Go.Proofs.Tryz
attribute [local irreducible] aL aB awp aC fwp Quiet
def gC(n t:Int):Int:=if ((t<1∨1099511627776<t)∨n < -1152921504606846976)∨1152921504606846976<n then n else n-n % t
def upI(n t:Int):Int:=if gC n t=n then n else gC n t+t
theorem sQ{n t:Int} : gC n t≤n∧(gC n t=n∨(1≤t∧t≤1099511627776∧n-t<gC n t ∧ -1152921504606846976≤n∧n≤1152921504606846976)):=by
 unfold gC
 split
 · omega
 · have:=Int.emod_nonneg n (show t≠0 by omega)
   have:=Int.emod_lt_of_pos n (show 0<t by omega)
   omega
theorem xo(n t:Int)(hn:I64 n):Con Tryz.prog 244 [.int .i64 n,.int .i64 t] [] [] fun r _ _=>r=.int .i64 (gC n t):=by
 unfold I64 at hn
 refine EN2 Tryz.func244 rfl (aSR (aA rfl (aNs (aSR (aM rfl (aU rfl (bg rfl rfl) (aM rfl (aG rfl rfl (fun hc=>az rfl) (aG rfl rfl (fun hc=>dy (aa rfl hc) rfl) (aU rfl (cm rfl rfl (fun h=>gf rfl h)) (aM rfl (aG rfl rfl (fun hc=>az rfl) ?_))))))))))))
 refine aG rfl rfl (fun hc=>bg (aa rfl hc) rfl) (aU rfl (cm rfl rfl (fun h=>gf rfl h)) (aM rfl (aG rfl rfl (fun hc=>az rfl) (aG rfl rfl (fun hc=>dy (aa rfl hc) rfl) (aU rfl (cm rfl rfl (fun h=>gf rfl h)) (aNn ?_))))))
 refine ah _ rfl (fun h1 => ?_) (fun h1 => ?_)
 ·skip
  have hb:((t<1∨1099511627776<t)∨n < -1152921504606846976)∨1152921504606846976<n:=by simp at h1;omega
  refine aSR (aM rfl (aA rfl (aNn (aj (aN (FZ1 [] Tryz.results244 rfl ?_))))))
  unfold gC;rw [if_pos hb]
 ·skip
  have hb:¬ (((t<1∨1099511627776<t)∨n < -1152921504606846976)∨1152921504606846976<n):=by simp at h1;omega
  have hm1:=Int.emod_nonneg n (show t≠0 by omega)
  have hm2:=Int.emod_lt_of_pos n (show 0<t by omega)
  have ht:n.tmod t=n % t∨n.tmod t=n % t-t:=by rw [Int.tmod_eq_emod];split<;>omega
  refine ai (an (aSR (aM rfl (aM rfl (aU rfl (qq rfl rfl (by omega)) (aA rfl (aNs (aSR (aM rfl (aU rfl (bg rfl rfl) (aNn ?_)))))))))))
  refine ah _ rfl (fun h2 => ?_) (fun h2 => ?_)
  ·skip
   have ht2:n.tmod t+t=n % t:=by simp at h2;omega
   refine ae (aM rfl (aM rfl (aU rfl (aO rfl rfl (by omega)) (aA rfl (aNn (aSR (aM rfl (aM rfl (aU rfl (bN rfl rfl (by omega)) (aA rfl (aNn (aj (FZ1 [] Tryz.results244 rfl ?_)))))))))))))
   unfold gC;rw [if_neg hb,← ht2]
  ·skip
   have ht2:n.tmod t=n % t:=by simp at h2;omega
   refine ai (an (aSR (aM rfl (aM rfl (aU rfl (bN rfl rfl (by omega)) (aA rfl (aNn (aj (FZ1 [] Tryz.results244 rfl ?_)))))))))
   unfold gC;rw [if_neg hb,← ht2]
theorem rb(n t:Int)(hn:I64 n):Con Tryz.prog 141 [.int .i64 n,.int .i64 t] [] [] fun r _ _=>r=.int .i64 (upI n t):=by
 have hd := @sQ n t
 unfold I64 at hn
 refine EN2 Tryz.func141 rfl (aSR (aA rfl (aNs (aSR (aM rfl (aM rfl (aU rfl (Q0 rfl (xo n t hn)) (aA rfl (aNn (aSR (aM rfl (aM rfl (aU rfl (dS rfl rfl) (aNn ?_))))))))))))))
 refine ah _ rfl (fun h1 => ?_) (fun h1 => ?_)
 ·skip
  have hb:gC n t≠n:=by simpa using h1
  refine aSR (aM rfl (aM rfl (aU rfl (aO rfl rfl (by omega)) (aA rfl (aNn (aj (aN (FZ1 [] Tryz.results141 rfl ?_))))))))
  unfold upI;rw [if_neg hb]
 ·skip
  have hb:gC n t=n:=by simpa using h1
  refine ai (an (aSR (aM rfl (aA rfl (aNn (aj (FZ1 [] Tryz.results141 rfl ?_)))))))
  unfold upI;rw [if_pos hb]
def gM(x n:Int):Bool:=decide (0≤x) && decide (x≤1099511627776) && decide (0≤n) && decide (n≤1099511627776-x)
theorem ua(x n:Int)(hx:I64 x)(hn:I64 n):Con Tryz.prog 267 [.agg #[.int .i64 x,.int .i64 n]] [] [] fun v _ _=>v=.bool (gM x n):=by
 unfold I64 at hx hn
 refine EN1 Tryz.func267 rfl (aSR (LT rfl (bz rfl rfl rfl (fun b0_0=>(aHN ?_)))))
 refine aA rfl (aNn (aSR (UO 0 rfl rfl (UL 0 tk3 rfl rfl rfl rfl (aU rfl (dR rfl rfl) (aM rfl (GO 0 rfl rfl rfl (GL 0 tk3 rfl rfl rfl rfl rfl (aG rfl rfl (fun hc=>dq (aa rfl hc) rfl) (aU rfl (aQ rfl rfl (fun h=>gt rfl h)) (aM rfl (GO 1 rfl rfl rfl ?_))))))))))))
 refine GL 0 tk3 rfl rfl rfl rfl rfl (aG rfl rfl (fun hc=>dR (aa rfl hc) rfl) (aU rfl (aQ rfl rfl (fun h=>gt rfl h)) (aM rfl (GO 1 rfl rfl rfl (GL 0 tk3 rfl rfl rfl rfl rfl (GO 0 rfl rfl rfl (GL 0 tk3 rfl rfl rfl rfl rfl ?_)))))))
 refine aG rfl rfl (fun hc=>bN rfl (aa rfl hc) (by (first | omega | (simp at hc;omega)))) ?_
 refine aG rfl rfl (fun hc=>dq (aa rfl hc) (aa rfl hc)) (aU rfl (aQ rfl rfl (fun h=>gt rfl h)) (aA rfl (aNn (aj (FZ1 [] Tryz.results267 rfl ?_)))))
 rfl
theorem nY(x n:Int)(h:I64 (x+n)):Con Tryz.prog 269 [.agg #[.int .i64 x,.int .i64 n]] [] [] fun v _ _=>v=.int .i64 (x+n):=by
 unfold I64 at h
 refine EN1 Tryz.func269 rfl (aSR (LT rfl (bz rfl rfl rfl (fun b0_0=>(aHN ?_)))))
 refine aA rfl (aNn (aSR (UO 0 rfl rfl (UL 0 tk3 rfl rfl rfl rfl (UO 1 rfl rfl (UL 0 tk3 rfl rfl rfl rfl (aU rfl (aO rfl rfl (by omega)) (aA rfl (aNn (aj (FZ1 [] Tryz.results269 rfl ?_)))))))))))
 rfl
abbrev Span:=Int × Int
def dX(p:Span):List D:=[.v (.int .i64 p.1),.v (.int .i64 p.2)]
theorem fC{x n:Int} : gM x n=true↔0≤x∧x≤1099511627776∧0≤n∧n≤1099511627776-x:=by
 simp only [gM,Bool.and_eq_true,decide_eq_true_eq,and_assoc]
def pw(l:List Span)(i:Nat)(p:Span):Bool := !((!gM p.1 p.2 || decide (p.2=0)) || (decide (0<(i:Int)) && decide (p.1≤(l.getD (i-1) (0,0)).1+(l.getD (i-1) (0,0)).2)))
def rgB(l:List Span):Bool:=l.zipIdx.all fun x=>pw l x.2 x.1
theorem kQ{l:List Span} : rgB l=true↔∀ (j:Nat) (p:Span),l[j]? = some p→pw l j p=true:=by
 unfold rgB
 rw [List.all_eq_true]
 constructor
 · intro h j p hp
   exact h (p,j) (by rw [List.mem_zipIdx_iff_getElem?];exact hp)
 · rintro h ⟨p,j⟩ hx
   exact h j p (by rw [List.mem_zipIdx_iff_getElem?] at hx;exact hx)
theorem j6{l:List Span}{i:Nat}{p:Span}(h:pw l i p=true):gM p.1 p.2=true:=by
 unfold pw at h
 cases hv:gM p.1 p.2 with
 | true=>rfl
 | false=>rw [hv] at h;simp at h
theorem tH(l:List Span)(ad:Option Addr)(c:Nat)(hl:∀ p∈l,I64 p.1∧I64 p.2):Con Tryz.prog 266 [.slice ad l.length c] [Sh (.slice ad l.length c) (.sl (l.map dX))] [] fun v _ _=>v=.bool (rgB l):=by
 have HL:=Lib.hid hl
 clear hl
 refine EN1 Tryz.func266 rfl (qK 0 rfl (fun hlen => ?_))
 rw [List.length_map] at hlen
 refine aSR (aA rfl (aNs (aSR (aM rfl (aU rfl (aY Tryz.underlying32 rfl) (aM rfl (aNn (ao (aR [0,5,6,7] [0] [] (fun (k:Nat) s=>(k≤l.length∧∀ j p,j<k→l[j]? = some p→pw l j p=true)∧s=⟨[(0,true,.slice ad l.length c),(5,true,.slice ad l.length c),(6,true,.int .i64 l.length),(7,true,.int .i64 k)],[Sh (.slice ad l.length c) (.sl (l.map dX))],[]⟩) (fun k=>l.length-k) rfl (⟨0,⟨Nat.zero_le _,by omega⟩,rfl⟩) ?_)))))))))
 rintro k s ⟨⟨hk,hok⟩,rfl⟩
 refine aSR (aU rfl (bg rfl rfl) (aNs ?_))
 refine ah _ rfl (fun h1 => ?_) (fun h1 => ?_)
 ·skip
  have hk':k<l.length:=by simpa using h1
  obtain ⟨p,hp⟩:∃ p,l[k]? = some p:=⟨l[k]'hk',by simp⟩
  have hpI:=HL.out p (List.mem_of_getElem? hp)
  have hv0:0<k→gM (l.getD (k-1) (0,0)).1 (l.getD (k-1) (0,0)).2=true:=fun h0=>j6 (hok (k-1) _ (by omega) (by simp [List.getD,show k-1<l.length by omega]))
  refine ai (an (aq (ao (aSR (aM rfl ?_)))))
  refine fZ true rfl rfl (fun _=>fK Tryz.underlying32 tk222 rfl (aF 0 rfl) rfl (row:=dX p) (by simp [hp]) rfl rfl) (fun h=>absurd h (by decide)) (fun ⟨b3_1,o3_1⟩ => ?_)
  refine aU rfl (dW (o:=0) (v:=.agg #[.int .i64 p.1,.int .i64 p.2]) tk222 rfl (aF 0 rfl) rfl rfl) (LT rfl (bt (zs:=[.int .i64 0,.int .i64 0]) (by kernel_rfl) rfl (fun b3_3=>(aHN ?_))))
  refine aA rfl (aI rfl (aW 0 tk222 rfl rfl rfl rfl (aHK ?_)))
  refine aNs (DR [] 23 (VL 0 0 tk222 rfl rfl rfl rfl rfl (bV 1 rfl rfl (Q0 rfl (ua _ _ hpI.1 hpI.2)) (bV 2 rfl rfl (bY rfl) (VM 3 rfl rfl (bW 4 rfl rfl rfl (fun hc=>qFA (off:=1) rfl) (bW 5 rfl rfl rfl (fun hc=>bJ 0 tk3 (aa rfl hc) rfl rfl) (bW 6 rfl rfl rfl (fun hc=>bw (aa rfl hc) rfl) (bV 7 rfl rfl (cm rfl rfl (fun h=>gf rfl h)) (VM 8 rfl rfl (bW 9 rfl rfl rfl (fun hc=>az rfl) (bW 10 rfl rfl rfl (fun hc=>dy (aa rfl hc) rfl) (bW 11 rfl rfl rfl (fun hc=>az (aa rfl hc)) (bW 12 rfl rfl rfl (fun hc=>az rfl) (bW 13 rfl rfl rfl (fun hc=>az rfl) ?_)))))))))))))))
  refine bW 14 rfl rfl rfl (fun hc=>bN (aa rfl hc) rfl (by (first | omega | (simp at hc;omega)))) ?_
  refine mP 15 rfl (by kernel_rfl) _ rfl rfl (fun hc=>fK Tryz.underlying32 tk222 (aa rfl hc) (aF 1 rfl) (aa rfl hc) (i:=k-1) (row:=dX (l.getD (k-1) (0,0))) (by have h:=gT hc;simp at h;simp [List.getD,show k-1<l.length by omega]) (by have h:=gT hc;simp at h;omega) rfl) (fun _=>⟨(0,0)⟩) (fun ⟨b4_15,o4_15⟩ => ?_)
  refine bW 16 rfl rfl rfl (fun hc=>dW (o:=0) (v:=.agg #[.int .i64 (l.getD (k-1) (0,0)).1,.int .i64 (l.getD (k-1) (0,0)).2]) tk222 (aa rfl hc) (aF 0 rfl) hc rfl) ?_
  refine bW 17 rfl rfl rfl (fun hc=>Q0 (ax (aa rfl hc) rfl) (nY _ _ (by have h:=gT hc;simp at h;have:=fC.1 (hv0 h);unfold I64;omega))) ?_
  refine bW 18 rfl rfl rfl (fun hc=>qFA (off:=0) rfl) (bW 19 rfl rfl rfl (fun hc=>bJ 0 tk3 (aa rfl hc) rfl rfl) (bW 20 rfl rfl rfl (fun hc=>dR (aa rfl hc) (aa rfl hc)) (bW 21 rfl rfl rfl (fun hc=>aQ (aa rfl hc) rfl (fun h=>gt hc h)) (bV 22 rfl rfl (cm rfl rfl (fun h=>gf rfl h)) (BN (an ?_))))))
  refine ah _ rfl (fun h2 => ?_) (fun h2 => ?_)
  ·skip
   refine aSR (aA rfl (aNn (aj (bH (aN (aN (bH (aN (FZ1 [] Tryz.results266 rfl ?_)))))))))
   have hno:pw l k p=false:=by unfold pw;rw [h2];rfl
   show Value.bool false=.bool (rgB l)
   congr 1;symm
   cases hr:rgB l with
   | false=>rfl
   | true=>rw [kQ.1 hr k p hp] at hno;cases hno
  ·skip
   refine ai (bo (an (ae (aU rfl (aO rfl rfl (by omega)) (aM rfl (aNn ?_))))))
   refine ⟨[0,5,6,7],[0],[],rfl,?_⟩
   refine ⟨k+1,⟨⟨by omega,fun j q hj hq => ?_⟩,rfl⟩,by omega⟩
   rcases Nat.lt_succ_iff_lt_or_eq.1 hj with h | rfl
   · exact hok j q h hq
   · obtain rfl:p=q:=by rw [hp] at hq;injection hq
     unfold pw;rw [h2];rfl
 ·skip
  refine aS (aV (aV (ba (an (aSR (aA rfl (aNn (aj (FZ1 [] Tryz.results266 rfl ?_)))))))))
  show Value.bool true=.bool (rgB l)
  rw [kQ.2 (fun j p hp=>hok j p (by have:=(List.getElem?_eq_some_iff.1 hp).1;simp at h1;omega) hp)]
def en(f u:Int):List Span:=if f<u then [(f,u-f)] else []
theorem wB(f u:Int)(b:Nat)(ad:Option Addr)(c:Nat)(rows:List Span)(hI:I64 (u-f))(hlen:rows.length≤999999) :
   Con Tryz.prog 268 [.int .i64 f,.int .i64 u,.pointer (some ⟨b,0,none⟩)] [] [Box b 32 [.slice ad rows.length c],aD (.slice ad rows.length c) 222 2 (rows.map dX)]
     fun r ps' hp'=>r=.tuple #[]∧ps'=[]∧∃ ad' c',hp'=[Box b 32 [.slice ad' (rows++en f u).length c'],aD (.slice ad' (rows++en f u).length c') 222 2 ((rows++en f u).map dX)]:=by
 unfold I64 at hI
 refine EN3 Tryz.func268 rfl (aSR (aM rfl (aM rfl (aU rfl (bg rfl rfl) (aNn ?_)))))
 refine ah _ rfl (fun h1 => ?_) (fun h1 => ?_)
 ·skip
  refine ae (UL 0 tk32 rfl rfl rfl rfl (aM rfl (aM rfl (aM rfl (aU rfl (bN rfl rfl (by omega)) (aU rfl (gr (l:=[(0,.tmp 9),(1,.tmp 12)]) (zs:=[.int .i64 0,.int .i64 0]) (pl:=[(0,1),(1,1)]) (by kernel_rfl) (by kernel_rfl) (by kernel_rfl) rfl rfl rfl) (LT rfl (WL (zs:=[.int .i64 0,.int .i64 0]) el32 rfl rfl rfl (.more rfl (.v rfl (.v rfl .nil)) .nil) rfl rfl (fun v1_6=>(aHN ?_))))))))))
  refine aI rfl (cJ 1 el32 rfl rfl rfl rfl (dY 2 el32 rfl (by simp)) (by first | assumption | simp) (by simp;omega) (rows.length+1) (by simp) (fun v1_7 c1_7 => ?_))
  refine aHK ?_
  refine aI rfl (aW 0 tk32 rfl rfl rfl rfl (aHK ?_))
  refine bK (FZ0 [0,1] Tryz.results268 ?_)
  refine ⟨rfl,rfl,v1_7,c1_7,?_⟩
  have:en f u=[(f,u-f)]:=by unfold en;rw [if_pos (by simpa using h1)]
  rw [this,List.map_append,List.length_append];rfl
 ·skip
  refine ai (FZ0 [0,1] Tryz.results268 ?_)
  refine ⟨rfl,rfl,ad,c,?_⟩
  have:en f u=[]:=by unfold en;rw [if_neg (by simpa using h1)]
  rw [this,List.append_nil];rfl
def gi(x n:Int)(l:List Span):List Span:=l.flatMap fun p=>en p.1 (min (p.1+p.2) x)++en (max p.1 (x+n)) (p.1+p.2)
theorem xS{x n:Int}{l:List Span}{k:Nat}{p:Span}(hp:l[k]? = some p):gi x n (l.take (k+1))=(gi x n (l.take k)++en p.1 (min (p.1+p.2) x))++en (max p.1 (x+n)) (p.1+p.2):=by
 unfold gi
 rw [List.take_add_one,hp]
 simp [List.flatMap_append,List.append_assoc]
theorem lH(f u:Int):(en f u).length≤1:=by unfold en;split<;>simp
theorem zM(x n:Int)(l:List Span):(gi x n l).length≤2*l.length:=by
 induction l with
 | nil=>simp [gi]
 | cons p l ih =>
   have e:gi x n (p::l)=(en p.1 (min (p.1+p.2) x)++en (max p.1 (x+n)) (p.1+p.2))++gi x n l:=rfl
   have:=lH p.1 (min (p.1+p.2) x)
   have:=lH (max p.1 (x+n)) (p.1+p.2)
   rw [e];simp only [List.length_append,List.length_cons];omega
theorem aco(l:List Span)(ad:Option Addr)(c:Nat)(x n:Int)(hr:rgB l=true)(hl:∀ p∈l,I64 p.1∧I64 p.2)(hv:gM x n=true)(hn:n≠0)(hll:l.length≤400000) :
   Con Tryz.prog 193 [.slice ad l.length c,.agg #[.int .i64 x,.int .i64 n]] [Sh (.slice ad l.length c) (.sl (l.map dX))] []
     fun r ps' hp'=>ps'=[]∧∃ ad' c',r=.slice ad' (gi x n l).length c'∧hp'=[aD (.slice ad' (gi x n l).length c') 222 2 ((gi x n l).map dX)]:=by
 have HL:=Lib.hid hl
 have HV:=Lib.hid (fC.1 hv)
 have HR:=Lib.hid (kQ.1 hr)
 have HVV:=Lib.hid hv
 have HRR:=Lib.hid hr
 have HN:=Lib.hid hn
 clear hl hv hr hn
 refine EN2 Tryz.func193 rfl (qK 0 rfl (fun hlen => ?_))
 rw [List.length_map] at hlen
 refine aSR (LT rfl (bz rfl rfl rfl (fun b0_0=>(aHN ?_))))
 refine aA rfl (aNs (aSR (aM rfl (aU rfl (Q1 rfl (tH l ad c HL.out) 0 rfl) (aU rfl (bY rfl) (aM rfl (aG rfl rfl (fun hc=>bJ 0 tk222 rfl rfl rfl) ?_)))))))
 refine aG rfl rfl (fun hc=>Q0 (ax (aa rfl hc) rfl) (ua _ _ (by have:=HV.out;unfold I64;omega) (by have:=HV.out;unfold I64;omega))) ?_
 refine aG rfl rfl (fun hc=>bY (aa rfl hc)) (aU rfl (cm rfl rfl (fun h=>gf rfl h)) (aM rfl (GO 1 rfl rfl rfl (GL 0 tk3 rfl rfl rfl rfl rfl (aG rfl rfl (fun hc=>bw (aa rfl hc) rfl) (aU rfl (cm rfl rfl (fun h=>gf rfl h)) (aNn ?_)))))))
 refine ah _ rfl (fun h1 => ?_) (fun h1 => ?_)
 ·skip
  exfalso
  rw [HRR.out,HVV.out] at h1
  have:=HN.out
  simp at h1;omega
 ·skip
  refine ai (an (aSR (LT rfl (bt (zs:=[.slice none 0 0]) (by kernel_rfl) rfl (fun b3_0=>(aHN ?_))))))
  refine aNn (aSR (aU rfl (dB (l:=[.tmp 5]) rfl) (aA rfl (aNs (aSR (aM rfl (aU rfl (aY Tryz.underlying32 rfl) (aM rfl (aNn (ao (ew 222 2 (aR [3,5,6,25,26,27] [0] [0,1,2] (fun (k:Nat) s=>k≤l.length∧∃ ad' c',s=⟨[(3,true,.pointer (some ⟨b0_0,0,none⟩)),(5,true,.pointer (some ⟨b3_0,0,none⟩)),(6,true,.func (.func 268) #[] #[.pointer (some ⟨b3_0,0,none⟩)]),(25,true,.slice ad l.length c),(26,true,.int .i64 l.length),(27,true,.int .i64 k)],[Sh (.slice ad l.length c) (.sl (l.map dX))],[Box b0_0 222 [.int .i64 x,.int .i64 n],Box b3_0 32 [.slice ad' (gi x n (l.take k)).length c'],aD (.slice ad' (gi x n (l.take k)).length c') 222 2 ((gi x n (l.take k)).map dX)]⟩) (fun k=>l.length-k) rfl (⟨0,Nat.zero_le _,none,0,rfl⟩) ?_))))))))))))
  rintro k s ⟨hk,ad',c',rfl⟩
  refine aSR (aU rfl (bg rfl rfl) (aNs ?_))
  refine ah _ rfl (fun h2 => ?_) (fun h2 => ?_)
  ·skip
   have hk':k<l.length:=by simpa using h2
   obtain ⟨p,hp⟩:∃ p,l[k]? = some p:=⟨l[k]'hk',by simp⟩
   have hpv:=fC.1 (j6 (HR.out k p hp))
   obtain ⟨q1,q2,q3,q4⟩:=hpv
   obtain ⟨q5,q6,q7,q8⟩:=HV.out
   have hcl:=zM x n (l.take k)
   have htl:(l.take k).length≤l.length:=List.length_take_le' _ _
   have hkl:=lH p.1 (min (p.1+p.2) x)
   refine ai (an (aq (ao (aSR ?_))))
   refine fZ true rfl rfl (fun _=>fK Tryz.underlying32 tk222 rfl (aF 0 rfl) rfl (row:=dX p) (by simp [hp]) rfl rfl) (fun h=>absurd h (by decide)) (fun ⟨b7_0,o7_0⟩ => ?_)
   refine aU rfl (dW (o:=0) (v:=.agg #[.int .i64 p.1,.int .i64 p.2]) tk222 rfl (aF 0 rfl) rfl rfl) (LT rfl (bt (zs:=[.int .i64 0,.int .i64 0]) (by kernel_rfl) rfl (fun b7_2=>(aHN ?_))))
   refine aI rfl (aW 3 tk222 rfl rfl rfl rfl (aHK ?_))
   refine aNs (DR [8] 9 (VM 0 rfl rfl (VO 1 0 rfl rfl rfl (VL 2 3 tk3 rfl rfl rfl rfl rfl (VL 3 3 tk222 rfl rfl rfl rfl rfl ?_)))))
   refine bV 4 rfl rfl (Q0 rfl (nY _ _ (by unfold I64;omega))) ?_
   refine VO 5 0 rfl rfl rfl (VL 6 0 tk3 rfl rfl rfl rfl rfl (bV 7 rfl rfl (oB rfl rfl) ?_))
   refine VE 8 rfl rfl (fE [] [1,2] (by kernel_rfl) rfl rfl rfl rfl rfl (wB _ _ _ _ _ _ (by unfold I64;omega) (by omega)) ?_)
   rintro v ps' hp' ⟨rfl,rfl,ad2,c2,rfl⟩
   refine bST rfl ?_
   refine BN (an (DR [8] 9 (VM 0 rfl rfl (VO 1 0 rfl rfl rfl (VL 2 3 tk3 rfl rfl rfl rfl rfl (VL 3 0 tk222 rfl rfl rfl rfl rfl ?_))))))
   refine bV 4 rfl rfl (Q0 rfl (nY _ _ (by unfold I64;omega))) ?_
   refine bV 5 rfl rfl (aaC rfl rfl) (VL 6 3 tk222 rfl rfl rfl rfl rfl ?_)
   refine bV 7 rfl rfl (Q0 rfl (nY _ _ (by unfold I64;omega))) ?_
   refine VE 8 rfl rfl (fE [] [1,2] (by kernel_rfl) rfl rfl rfl rfl rfl (wB _ _ _ _ _ _ (by unfold I64;omega) (by simp only [List.length_append];omega)) ?_)
   rintro v ps' hp' ⟨rfl,rfl,ad3,c3,rfl⟩
   refine bST rfl ?_
   refine BN (bo (an (ae (aU rfl (aO rfl rfl (by omega)) (aM rfl (aNn ?_))))))
   refine ⟨[3,5,6,25,26,27],[0],[0,1,2],rfl,?_⟩
   refine ⟨k+1,⟨by omega,ad3,c3,?_⟩,by omega⟩
   rw [xS hp];rfl
  ·skip
   refine aS (aV (aV (ba (an (aSR (UL 1 tk32 rfl rfl rfl rfl (aA rfl (aNn (aj (FZ1 [2] Tryz.results193 rfl ?_))))))))))
   have e:l.take k=l:=List.take_of_length_le (by simp at h2;omega)
   rw [e]
   exact ⟨rfl,ad',c',rfl,rfl⟩
def iL(size al from_ until_:Int):List Span→Int × Bool
 | []=>(0,false)
 | p::l=>if upI (max p.1 from_) al+size≤min (p.1+p.2) until_ then (upI (max p.1 from_) al,true) else iL size al from_ until_ l
theorem acu(l:List Span)(ad:Option Addr)(c:Nat)(size al from_ until_:Int)(hr:rgB l=true)(hl:∀ p∈l,I64 p.1∧I64 p.2)(h1:1≤size∧size≤1099511627776)(h2:1≤al∧al≤1099511627776)(h3:0≤from_∧from_≤1099511627776) :
   Con Tryz.prog 194 [.slice ad l.length c,.int .i64 size,.int .i64 al,.int .i64 from_,.int .i64 until_] [Sh (.slice ad l.length c) (.sl (l.map dX))] []
     fun r _ _=>r=.tuple #[.int .i64 (iL size al from_ until_ l).1,.bool (iL size al from_ until_ l).2]:=by
 have HL:=Lib.hid hl
 have HR:=Lib.hid (kQ.1 hr)
 have HRR:=Lib.hid hr
 clear hl hr
 refine EN5 Tryz.func194 rfl (qK 0 rfl (fun hlen => ?_))
 rw [List.length_map] at hlen
 refine aSR (aA rfl (aA rfl (aNs (aSR (aM rfl (aU rfl (Q1 rfl (tH l ad c HL.out) 0 rfl) ?_))))))
 refine aU rfl (bY rfl) (aM rfl (aG rfl rfl (fun hc=>az rfl) (aG rfl rfl (fun hc=>bg (aa rfl hc) rfl) (aU rfl (cm rfl rfl (fun h=>gf rfl h)) (aM rfl (aG rfl rfl (fun hc=>az rfl) (aG rfl rfl (fun hc=>dy (aa rfl hc) rfl) (aU rfl (cm rfl rfl (fun h=>gf rfl h)) (aM rfl (aG rfl rfl (fun hc=>az rfl) (aG rfl rfl (fun hc=>bg (aa rfl hc) rfl) (aU rfl (cm rfl rfl (fun h=>gf rfl h)) (aM rfl (aG rfl rfl (fun hc=>az rfl) (aG rfl rfl (fun hc=>dy (aa rfl hc) rfl) ?_)))))))))))))))
 refine aU rfl (cm rfl rfl (fun h=>gf rfl h)) (aM rfl (aG rfl rfl (fun hc=>az rfl) (aG rfl rfl (fun hc=>dy (aa rfl hc) rfl) (aU rfl (cm rfl rfl (fun h=>gf rfl h)) (aNn ?_)))))
 refine ah _ rfl (fun g1 => ?_) (fun g1 => ?_)
 ·skip
  exfalso
  rw [HRR.out] at g1
  simp at g1;omega
 ·skip
  refine ai (an (aq (aSR (aM rfl (aU rfl (aY Tryz.underlying32 rfl) (aM rfl (aNn (ao (aR [1,2,3,4,38,39,40] [0] [] (fun (k:Nat) s=>(k≤l.length∧iL size al from_ until_ l=iL size al from_ until_ (l.drop k))∧s=⟨[(1,true,.int .i64 size),(2,true,.int .i64 al),(3,true,.int .i64 from_),(4,true,.int .i64 until_),(38,true,.slice ad l.length c),(39,true,.int .i64 l.length),(40,true,.int .i64 k)],[Sh (.slice ad l.length c) (.sl (l.map dX))],[]⟩) (fun k=>l.length-k) rfl (⟨0,⟨Nat.zero_le _,rfl⟩,rfl⟩) ?_)))))))))
  rintro k s ⟨⟨hk,hfit⟩,rfl⟩
  refine aSR (aU rfl (bg rfl rfl) (aNs ?_))
  refine ah _ rfl (fun g2 => ?_) (fun g2 => ?_)
  ·skip
   have hk':k<l.length:=by simpa using g2
   obtain ⟨p,hp⟩:∃ p,l[k]? = some p:=⟨l[k]'hk',by simp⟩
   have hpv:=fC.1 (j6 (HR.out k p hp))
   obtain ⟨q1,q2,q3,q4⟩:=hpv
   have hup:max p.1 from_-al<upI (max p.1 from_) al∧upI (max p.1 from_) al≤max p.1 from_+al:=by
     have hd := @sQ (max p.1 from_) al
     unfold upI
     split<;>omega
   have hdr:l.drop k=p::l.drop (k+1):=by
     rw [List.drop_eq_getElem_cons hk'];congr 1
     rw [List.getElem?_eq_getElem hk'] at hp;injection hp
   refine ai (an (aq (ao (aSR ?_))))
   refine fZ true rfl rfl (fun _=>fK Tryz.underlying32 tk222 rfl (aF 0 rfl) rfl (row:=dX p) (by simp [hp]) rfl rfl) (fun h=>absurd h (by decide)) (fun ⟨b5_0,o5_0⟩ => ?_)
   refine aU rfl (dW (o:=0) (v:=.agg #[.int .i64 p.1,.int .i64 p.2]) tk222 rfl (aF 0 rfl) rfl rfl) (LT rfl (bt (zs:=[.int .i64 0,.int .i64 0]) (by kernel_rfl) rfl (fun b5_2=>(aHN ?_))))
   refine aI rfl (aW 0 tk222 rfl rfl rfl rfl (aHK ?_))
   refine aNn (aSR (UO 0 rfl rfl (UL 0 tk3 rfl rfl rfl rfl (aM rfl (aU rfl (aaC rfl rfl) (aM rfl ?_))))))
   refine aU rfl (Q0 rfl (rb _ _ (by unfold I64;omega))) ?_
   refine aA rfl (aNn (aSR (aM rfl (aM rfl (aU rfl (aO rfl rfl (by omega)) (UL 0 tk222 rfl rfl rfl rfl ?_))))))
   refine aU rfl (Q0 rfl (nY _ _ (by unfold I64;omega))) ?_
   refine aM rfl (aU rfl (oB rfl rfl) (aU rfl (dq rfl rfl) (aNn ?_)))
   refine ah _ rfl (fun g3 => ?_) (fun g3 => ?_)
   ·skip
    refine aSR (aM rfl (aA rfl (aA rfl (aNn (aj (bH (aN (aN (bH (aN (FZ2 [] Tryz.results194 rfl rfl ?_)))))))))))
    rw [hfit,hdr];unfold iL;rw [if_pos (by simpa using g3)]
   ·skip
    refine ai (bo (an (ae (aU rfl (aO rfl rfl (by omega)) (aM rfl (aNn ?_))))))
    refine ⟨[1,2,3,4,38,39,40],[0],[],rfl,?_⟩
    refine ⟨k+1,⟨⟨by omega,?_⟩,rfl⟩,by omega⟩
    rw [hfit,hdr];conv=>lhs;unfold iL
    rw [if_neg (by simpa using g3)]
  ·skip
   refine aS (aV (aV (ba (an (aSR (aA rfl (aA rfl (aNn (aj (FZ2 [] Tryz.results194 rfl rfl ?_))))))))))
   rw [hfit,List.drop_of_length_le (by simp at g2;omega)];rfl
end Go.Proofs.YtfkcmbonmpcbfaaGreat

