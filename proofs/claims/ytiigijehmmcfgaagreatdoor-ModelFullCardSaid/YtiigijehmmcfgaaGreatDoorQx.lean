/- What the proof of the statement leans on (part 24). -/
import Derived.LaidLaws
import Derived.LaidMore
import Derived.OpenShut
import Derived.Stop.Joined
import Derived.ChangeMaps5
import Derived.Lay
import Derived.Test.YtiigijehmmcfgaaGreatDoorQw

namespace Go.Proofs.YtiigijehmmcfgaaGreatDoor
open Go.Proofs.Tryz
open Go Go.Lw Go.ChangeShapes Go.WideShapes Go.ChangeAt Go.RowKit
set_option maxRecDepth 20000
theorem own:ownKnob Tryz.prog.godebug=none:=by kernel_rfl
theorem laidOut:laidOutB Tryz.prog=true:=by kernel_rfl
theorem DV (c:UInt8):((kI (c.toNat:Int) [((42:Int),(4:Int)),(43,5),(63,6)]).map (Value.int .i64)).getD (Value.int .i64 0)=Value.int .i64 (dF c:Nat):=by
 have hc:∀n:Nat,n<256->(c.toNat=n↔c=UInt8.ofNat n):=fun n hn=>by
  rw[<-UInt8.toNat_inj];simp;rw[Nat.mod_eq_of_lt hn]
 simp only[kI,dF]
 by_cases h1:c=42
 · subst h1;rfl
 by_cases h2:c=43
 · subst h2;rfl
 by_cases h3:c=63
 · subst h3;rfl
 have n1:¬(c.toNat:Int)=42:=fun e=>h1 ((hc 42 (by decide)).1 (by omega))
 have n2:¬(c.toNat:Int)=43:=fun e=>h2 ((hc 43 (by decide)).1 (by omega))
 have n3:¬(c.toNat:Int)=63:=fun e=>h3 ((hc 63 (by decide)).1 (by omega))
 simp[h1,h2,h3,n1,n2,n3]
theorem Ev {W:World}{g t:Nat}{cs:Array Value}{fuel:Nat}{pl:List MemPlace}{sp:Nat->Bool}{held:Bool}{enc:TypeId×Value->Unit}(hg:Tryz.prog.globalNamed "limner/regs.signs" =some g) (ht:(Tryz.prog.globals[g]?).map (·.type)=some t) (hv:W.var? Tryz.prog "limner/regs.signs" =some cs)
 (hd:DataW.trod enc Tryz.prog W 0 sp held fuel t cs.toList=some (Rows.laid_limner_regs_signs,pl)):Sg W.heap W.heap.size:=by
 have gT:Tryz.prog.globalNamed "limner/regs.signs" =some 4:=by kernel_rfl
 have tT:(Tryz.prog.globals[4]?).map (·.type)=some 198:=by kernel_rfl
 obtain rfl:=Option.some.inj (gT.symm.trans hg);obtain rfl:=Option.some.inj (tT.symm.trans ht);obtain⟨b,hcs,l,hm,hp⟩:=E6 (kk:=.u8) (kd:=.i64) underlying198 underlying5 underlying3 hd
 have hcell:W.cell? ⟨4,0,none⟩=some (.map (some b)):=by
  have:=World.var?_cell hg hv 0;obtain⟨l1⟩:=cs;simp only at hcs;subst hcs;simpa using this
 have hc2:cellAt W.heap ⟨4,0,none⟩=some (.map (some b)):=(At.refl W).cell _▸hcell
 have hperm:l.Perm [((42:Int),(4:Int)),(43,5),(63,6)]:=by
  have hinj:∀p q:Int×Int,((.int .u8 p.1,.lit (.int .i64 p.2)):Lit×DataW Unit)=(.int .u8 q.1,.lit (.int .i64 q.2))->p=q:=by
   intro p q h;simp only[Prod.mk.injEq,Lit.int.injEq,DataW.lit.injEq,true_and] at h;exact Prod.ext h.1 h.2
  have hp':(l.map fun p=>((.int .u8 p.1,.lit (.int .i64 p.2)):Lit×DataW Unit)).Perm ([((42:Int),(4:Int)),(43,5),(63,6)].map fun p=>((.int .u8 p.1,.lit (.int .i64 p.2)):Lit×DataW Unit)):=hp
  have hback:∀m:List (Int×Int),(m.map fun p=>((.int .u8 p.1,.lit (.int .i64 p.2)):Lit×DataW Unit)).map (fun y=>match y with|(.int _ a,.lit (.int _ b))=>(a,b)|_=>((0:Int),(0:Int)))=m:=by
   intro m;rw[List.map_map];have:((fun y=>match y with|(.int _ a,.lit (.int _ b))=>(a,b)|_=>((0:Int),(0:Int)))∘fun p=>((.int .u8 p.1,.lit (.int .i64 p.2)):Lit×DataW Unit))=id:=by funext p;rfl
   rw[this,List.map_id]
  have:=hp'.map (fun y=>match y with|(.int _ a,.lit (.int _ b))=>(a,b)|_=>((0:Int),(0:Int)))
  rwa [hback,hback] at this
 refine⟨b,ck hc2,hm.lt,hc2,l,hm,fun c=>?_⟩;rw[FJ hperm (by decide)];exact DV c
theorem GF (s:ByteArray):bs s.data.toList=s:=by cases s;simp[bs]
end Go.Proofs.YtiigijehmmcfgaaGreatDoor
namespace Go.Proofs.YtiigijehmmcfgaaGreatDoor
open Go.Proofs.Tryz
open Go Go.Lw
set_option maxRecDepth 20000
section
variable {h h' g3 g4:ay}{b db n:Nat}{v p v3:Value}{l:List UInt8}{O:Nat->Prop}{d:cg}{live:List Bool}{cls:List Int}
theorem bInfo:∃j,Tryz.prog.info? 101=some j/\j.size≠0:=⟨_,rfl,by decide⟩
theorem HO:∃i,Tryz.prog.info? 5=some i/\i.zero=some (.int .u8 0)/\i.size=1/\i.bytes=1:=⟨_,rfl,rfl,rfl,rfl⟩
theorem Ke:liesAt Tryz.prog Tryz.prog.depth 101 (2 / Tryz.prog.cellsOf 101) 0 101 1=true:=by kernel_rfl
theorem F8:Tryz.prog.cellsOf 5=1:=by kernel_rfl
theorem r6 (hb:br h b 101 [.pointer none,v]) :
 ah Tryz.prog 111 #[.pointer (some ⟨b,0,none⟩)] h (bX fun _ h'=>br h' b 101 [.pointer (some ⟨b,0,none⟩),v]/\Ext (fun i=>i=b) h h'/\h'.size=h.size):=by
 obtain⟨j,hj,hj0⟩:=bInfo;refine ah.of func111 rfl rfl ?_;refine bB func111 2 rfl ?_;refine xp rfl (aa (off:=0) underlying101 rfl rfl H.Ep rfl) ?_;refine xp rfl (af H.IE rfl (hb.cell (i:=0) rfl)) ?_;refine xp rfl (ak.qE underlying99 rfl rfl) ?_;refine xd [0,6] rfl ?_;refine aO rfl rfl (fun _=>?_) (fun hc=>absurd hc (by decide));refine G.bV func111 rfl ?_;refine cx 2 rfl rfl (ak.Eh underlying99 underlying175 hj hj0 hb (by simp) rfl) ?_;refine xp rfl (ak.EL func131 (by decide +kernel) (by kernel_rfl) (by kernel_rfl) (by kernel_rfl) rfl) ?_;refine xp rfl (ak.Bs underlying175 underlying99 hj hb Ke rfl) ?_;refine cx 1 rfl rfl (aa (off:=0) underlying101 rfl rfl H.Ep rfl) ?_;refine RW.bh rfl rfl rfl (av.aE H.Ep rfl rfl hb (by first|decide|exact of_decide_eq_true rfl|(simp;done)|(simp;omega)) rfl) ?_;rintro _ h1 ⟨rfl,hb1,hx1,hs1⟩;refine xd [0,6] rfl ?_;refine G.DG func111 rfl ?_;exact⟨_,rfl,hb1,hx1,hs1⟩
theorem uv (hb:br h b 101 [.pointer (some ⟨b,0,none⟩),v]) :
 ah Tryz.prog 111 #[.pointer (some ⟨b,0,none⟩)] h (bX fun _ h'=>br h' b 101 [.pointer (some ⟨b,0,none⟩),v]/\Ext (fun i=>i=b) h h'/\h'.size=h.size):=by
 obtain⟨j,hj,hj0⟩:=bInfo;refine ah.of func111 rfl rfl ?_;refine bB func111 2 rfl ?_;refine xp rfl (aa (off:=0) underlying101 rfl rfl H.Ep rfl) ?_;refine xp rfl (af H.IE rfl (hb.cell (i:=0) rfl)) ?_;refine xp rfl (ak.qE underlying99 rfl rfl) ?_;refine xd [0,6] rfl ?_;refine aO rfl rfl (fun hc=>absurd hc Bool.false_ne_true) (fun _=>?_);refine bB func111 2 rfl ?_;refine xp rfl (aa (off:=0) underlying101 rfl rfl H.Ep rfl) ?_;refine xp rfl (af H.IE rfl (hb.cell (i:=0) rfl)) ?_;refine cx 1 rfl rfl (ak.A7 underlying99 hj rfl rfl) ?_;refine xd [0,6,19] rfl ?_;refine aO rfl rfl (fun hc=>absurd hc Bool.false_ne_true) (fun _=>?_);refine aA rfl ?_;refine G.DG func111 rfl ?_;exact⟨_,rfl,hb,Ext.refl _ _,rfl⟩
theorem lP (hb:br h b 101 [p,v]) (hp:p= .pointer none\/p= .pointer (some ⟨b,0,none⟩)) :
 ah Tryz.prog 111 #[.pointer (some ⟨b,0,none⟩)] h (bX fun _ h'=>br h' b 101 [.pointer (some ⟨b,0,none⟩),v]/\Ext (fun i=>i=b) h h'/\h'.size=h.size):=by
 rcases hp with rfl|rfl
 · exact r6 hb
 · exact uv hb
theorem o6 (s:ByteArray) (hb:ql h b 101 5 l) (hl:l.length+s.size<=140737488355328) :
 ah Tryz.prog 98 #[.pointer (some ⟨b,0,none⟩),.string s] h (bX fun r h'=>r= .tuple #[.int .i64 s.size,.nilIface]/\ql h' b 101 5 (l++s.data.toList)/\Ext (fun i=>b<=i) h h'):=by
 obtain⟨i,hi,hi0,hi1,hi2⟩:=HO;obtain⟨p,v,hk,hp,hv⟩:=hb;have hlt:=hk.lt;refine ah.of func98 rfl rfl ?_;refine aY func98 2 [0,1,4,5] rfl ?_;refine bB func98 1 rfl ?_;refine xo rfl (aj (vs:=[_]) func111 rfl H.Hx rfl (ah.aX (lP hk hp))) ?_;rintro _ h1 ⟨hk1,hx1,hs1⟩;refine xd [0,1,4,5] rfl ?_;refine bB func98 3 rfl ?_;refine xp rfl (aa (off:=1) underlying101 rfl rfl H.yG rfl) ?_;have hv1:GR h1 (b+1) 5 v l:=aM.ext hx1 hv (fun g hg=>by have:=mg hv g hg.symm;omega);refine xp rfl (af H.GK rfl (hk1.cell (i:=1) rfl)) ?_;refine aV 1 rfl ?_;refine xo rfl (av.DX underlying34 underlying9 hi hi0 hi1 hi2 rfl rfl hv1 hl (by omega)) ?_;rintro v2 h2 ⟨ho2,hx2⟩;refine cx 1 rfl rfl (aa (off:=1) underlying101 rfl rfl H.yG rfl) ?_;have hk2:=hk1.ext hx2 (fun hm=>by have:=mg hv1 b hm;omega);obtain⟨oa2,c2,rfl,-⟩:=aM.open ho2;refine RW.bh rfl rfl rfl (av.aE H.yG rfl rfl hk2 (by first|decide|exact of_decide_eq_true rfl|(simp;done)|(simp;omega)) rfl) ?_;rintro _ h3 ⟨rfl,hk3,hx3,hs3⟩;refine xd [0,1,4,5] rfl ?_;refine bB func98 1 rfl ?_;refine xp rfl (ak.bp underlying9 rfl) ?_;refine aS 2 [0,1,4,5] rfl ?_;refine aK func98 rfl rfl ?_;have ho3:GR h3 (b+1) 5 _ (l++s.data.toList):=aM.ext hx3 ho2 (fun g hg=>by have:=mg ho2 g hg.symm;omega);exact⟨_,rfl,rfl,⟨_,_,hk3,.inr rfl,ho3⟩,((hx1.mono (fun _ _ k=>by show b<=_;omega)).trans (hx2.mono (fun g _ k=>by have:=mg hv1 g k;show b<=g;omega))).trans (hx3.mono (fun _ _ k=>by show b<=_;omega))⟩
theorem ql.ax {h h':ay}{b:Nat}{l:List UInt8}(k:ql h b 101 5 l) (e:aD h h'):ql h' b 101 5 l:=by
 obtain⟨p,v,hk,hp,hv⟩:=k;exact⟨p,v,hk.ax e,hp,cN.ax hv e⟩
theorem vp (hb:ql h b 101 5 l) (hl:l.length<=140737488355328) :
 ah Tryz.prog 100 #[.pointer (some ⟨b,0,none⟩)] h (bX fun r h'=>r= .string ⟨l.toArray⟩/\Ext (fun i=>b<=i) h h'):=by
 obtain⟨p,v,hk,hp,hv⟩:=hb;obtain⟨oa,c,rfl,hw⟩:=aM.open hv;have hc1:=hk.cell (i:=1) rfl;refine ah.of func100 rfl rfl ?_;refine aY func100 1 [0,2] rfl ?_;refine au rfl ?_;refine bU (fun i=>b+1<=i) (fun i=>Nat.blt i 12) (sz:=12) (listed:= #[false,false,false,false,false,false,false,false,false,false,false,false]) func100 H.mixed rfl rfl rfl ?_;refine bF 0 1 (by kernel_rfl) rfl ?_;refine bF 1 3 (by kernel_rfl) rfl ?_;refine bf 2 7 (by kernel_rfl) rfl (fun h' e=>aa (off:=1) underlying101 rfl rfl H.yG rfl) ?_;refine bf 3 15 (by kernel_rfl) rfl (fun h' e=>af H.GK rfl (e.cell (by show ¬b+1<=b;omega) hc1)) ?_;refine bF 5 47 (by kernel_rfl) rfl ?_;refine bF 6 111 (by kernel_rfl) rfl ?_;refine bf 7 239 (by kernel_rfl) rfl (fun h' e=>aa (off:=1) underlying101 rfl rfl H.yG rfl) ?_;refine bf 8 495 (by kernel_rfl) rfl (fun h' e=>af H.GK rfl (e.cell (by show ¬b+1<=b;omega) hc1)) ?_;refine bf 9 1007 (by kernel_rfl) rfl (fun h' e=>ak.aN underlying34 rfl) ?_;refine dK 4 1023 (by kernel_rfl) rfl (av.CY underlying136 rfl hv) ?_;rintro u h1 ⟨⟨q,rfl,hs⟩,he⟩;refine⟨fun _=>he.of,?_⟩;refine dK 10 2047 (by kernel_rfl) rfl (qN underlying136 F8 rfl rfl hs hl) ?_;rintro _ h2 ⟨rfl,hx2⟩;refine⟨fun _=>hx2,?_⟩;refine bF 11 4095 (by kernel_rfl) rfl ?_;refine aR (by kernel_rfl) ?_;refine xu [0,2] rfl ?_;refine aK func100 rfl rfl ?_;exact⟨_,rfl,rfl,(aD.of he).trans (hx2.mono (fun g _ k=>by have:b+1<=g:=k;show b<=g;omega))⟩
def si (h:ay):Prop:=yx Tryz.prog h "internal/strconv.uint64pow10" =some (Lib.pow10Tab.map fun z=>Value.int .u64 z).toArray
theorem si.ax (k:si h) (e:aD h h'):si h':=AE e k
theorem Bo (hg:si h) (n:Int) (hn : -9223372036854775808<=n/\n<=9223372036854775807) :
 ah Tryz.prog 139 #[.int .i64 n] h (bX fun r h'=>r= .string (bs (Lib.itoa n))/\aD h h'):=by
 refine ah.nr fun w hw=>?_
 subst hw;refine(Tryz.strconv_Itoa n hn.1 hn.2 w hg).mono ?_;rintro e w' ⟨rfl,k,os,rfl⟩;refine⟨_,rfl,⟨rfl,?_⟩,rfl,rfl,rfl⟩;refine⟨by simp[Go.Sort.grow],fun b hb _=>?_⟩;simp[Go.Sort.grow,Array.getElem?_append_left hb]
theorem rY (c:UInt8) (hb:ql h b 101 5 l) (hl:l.length<=900000000) :
 ah Tryz.prog 140 #[.pointer (some ⟨b,0,none⟩),.int .u8 (c.toNat:Nat)] h (bX fun _ h'=>ql h' b 101 5 (l++[c])/\Ext (fun g=>b<=g) h h'):=by
 obtain⟨p,v,hk,hp,hv⟩:=hb;have hlt:=hk.lt;refine ah.of func140 rfl rfl ?_;refine aY func140 1 [0,1,4] rfl ?_;refine bB func140 1 rfl ?_;refine xo rfl (aj (vs:=[_]) func111 rfl H.Hx rfl (ah.aX (lP hk hp))) ?_;rintro _ h1 ⟨hk1,hx1,hs1⟩;refine xd [0,1,4] rfl ?_;refine bB func140 3 rfl ?_;refine xp rfl (aa (off:=1) underlying101 rfl rfl H.yG rfl) ?_;have hv1:GR h1 (b+1) 5 v l:=aM.ext hx1 hv (fun g hg=>by have:=mg hv g hg.symm;omega);refine xp rfl (af H.GK rfl (hk1.cell (i:=1) rfl)) ?_;refine aV 1 rfl ?_;refine xo rfl (av.bC (us:=[_]) underlying34 H.K7 rfl rfl (by decide) (by simp[Value.oneCell'])) ?_;rintro _ _ ⟨rfl,rfl⟩;refine xo rfl (av.cH underlying34 H.K7 rfl rfl (hv1) rfl rfl (by first|decide|simp[Value.oneCell']) (by omega) (by decide) (by omega)) ?_;rintro v2 h2 ⟨ho2,hx2,hx2',hv2⟩;have hk2:=hk1.ext hx2 (fun hm=>by have:=mg hv1 b hm;omega);have ho2':GR h2 (b+1) 5 v2 (l++[c]):=cN.of (ys:=[c]) ho2 rfl rfl rfl;obtain⟨oa2,c2,rfl,-⟩:=ho2.open;refine cx 1 rfl rfl (aa (off:=1) underlying101 rfl rfl H.yG rfl) ?_;refine RW.bh rfl rfl rfl (av.aE H.yG rfl rfl hk2 (by first|decide|exact of_decide_eq_true rfl|(simp;done)|(simp;omega)) rfl) ?_;rintro _ h3 ⟨rfl,hk3,hx3,hs3⟩;refine xd [0,1,4] rfl ?_;refine aY func140 1 [0,1,4] rfl ?_;refine aK func140 rfl rfl ?_;exact⟨_,rfl,⟨_,_,hk3,.inr rfl,aM.ext hx3 ho2' (fun g hg=>by have:=mg ho2' g hg.symm;omega)⟩,((hx1.mono (fun _ _ k=>by show b<=_;omega)).trans (hx2.mono (fun g _ k=>by have:=mg hv1 g k;show b<=g;omega))).trans (hx3.mono (fun _ _ k=>by show b<=_;omega))⟩
theorem qC (hg:si h){l:List Int}(hv:cn (.int .i64) h O v l) (hl:l.length<=1000000) (hb:∀n∈l,-9223372036854775808<=n/\n<=9223372036854775807) :
 ah Tryz.prog 118 #[v] h (bX fun r h'=>r= .string (bs (gv l))/\aD h h'):=by
 obtain⟨oa,n,c,rfl,hsl⟩:=hv.open;have hn:=hsl.len;refine ah.of func118 rfl rfl ?_;refine aY func118 1 [0,2] rfl ?_;refine xr func118 rfl ?_;refine xo rfl (av.aW H.IX) ?_;rintro _ h0 ⟨rfl,hk0,he0,hs0⟩;refine xd [0,2,3] rfl ?_;refine au rfl ?_;refine bB func118 1 rfl ?_;refine xp rfl (ak.aN underlying44 rfl) ?_;refine aS 1 [0,2,3,6,7,8] rfl ?_;refine G.block rfl rfl ?_;have hb0:ql h0 h.size 101 5 []:=BW hk0;refine bT (σ:=Nat) (fun i=>[(3,.pointer (some ⟨h.size,0,none⟩)),(6,.slice oa n c),(7,.int .i64 (n:Nat)),(8,.int .i64 (i:Nat))]) (fun i h'=>i<=n/\aD h h'/\ql h' h.size 101 5 (gv (l.take i))/\h0.size<=h'.size) (fun i=>n-i) (0) rfl ⟨rfl,rfl,rfl,rfl,trivial⟩ ⟨Nat.zero_le _,he0,hb0,Nat.le_refl _⟩ ?_;rintro i g ⟨hi,eg,hbg,hgz⟩ ih;have hlen:=xK (l.take i) (fun x hx=>hb x (List.mem_of_mem_take hx));rw[List.length_take] at hlen;refine aY func118 1 [3,6,7,8,9] rfl ?_;refine au rfl ?_;refine aG rfl rfl (fun hlt=>?_) (fun hlt=>?_)
 · obtain⟨b1,o1,x,hoa,_,hx,hcx⟩:=(hsl.mv (Mv.ax eg)).at (show i<n by omega);have hbx:=hb x (List.mem_of_getElem? hx);have hil:=Lib.itoa_length_le x hbx.1 hbx.2;have hbsz:=aZ (Lib.itoa x);have hbl:(bs (Lib.itoa x)).data.toList=Lib.itoa x:=by simp[bs]
   have hnx:gv (l.take (i+1))=gv (l.take i)++(bs (Lib.itoa x)).data.toList++[32]:=by rw[List.take_add_one,hx,Option.toList_some,E7,hbl]
   refine aA rfl ?_;refine au rfl ?_;refine G.block rfl rfl ?_;refine xr func118 rfl ?_;refine xp rfl (ak.aF underlying44 H.aQ rfl rfl i rfl hoa (by omega)) ?_;refine xp rfl (af H.bD rfl hcx) ?_;refine aS 1 [3,5,6,7,8,9] rfl ?_;refine bB func118 1 rfl ?_;refine xo rfl (aj (vs:=[_]) func139 rfl H.Jw rfl (ah.aX (Bo (hg.ax eg) x hbx))) ?_;rintro _ g1 ⟨rfl,e1⟩;refine xo rfl (aj (vs:=[_,_]) func98 rfl H.KD rfl (ah.aX (o6 (bs (Lib.itoa x)) (ql.ax hbg e1) (by omega)))) ?_;rintro _ g2 ⟨rfl,hb2,hx2⟩;refine xd [3,5,6,7,8,9] rfl ?_;refine G.bV func118 rfl ?_;refine xo rfl (aj (vs:=[_,_]) func140 rfl H.Jv rfl (ah.aX (rY 32 hb2 (by rw[List.length_append,hbl];omega)))) ?_;rintro _ g3 ⟨hb3,hx3⟩;refine xd [3,5,6,7,8,9] rfl ?_;refine G.aT ?_;refine G.bV func118 rfl ?_;refine xp rfl (ak.bL rfl rfl ⟨by omega,by omega⟩) ?_;refine aS 1 [3,5,6,7,8,9] rfl ?_;have z1:=e1.size;have z2:=hx2.size;have z3:=hx3.size;rw[<-hnx] at hb3
   have e3:aD h g3:=⟨by have:=eg.size;omega,fun b hb k=>by
    rw[hx3.block b (by have:=eg.size;omega) (by show ¬_<=_;omega),hx2.block b (by have:=eg.size;omega) (by show ¬_<=_;omega),e1.block b (by have:=eg.size;omega) (fun k=>k)];exact eg.block b hb k⟩
   exact ih (i+1) _ _ ⟨rfl,rfl,rfl,rfl,trivial⟩ ⟨by omega,e3,hb3,by omega⟩ (by omega)
 · have hie:l.take i=l:=List.take_of_length_le (by omega);rw[hie] at hbg;have hkl:=xK l hb;refine bN rfl rfl ?_;refine xr func118 rfl ?_;refine xo rfl (aj (vs:=[_]) func100 rfl H.JO rfl (ah.aX (vp hbg (by omega)))) ?_;rintro _ g1 ⟨rfl,hx1⟩;refine aS 1 [2,3,6,7,8,9] rfl ?_;refine aK func118 rfl rfl ?_;exact⟨_,rfl,rfl,⟨by have:=hx1.size;have:=eg.size;omega,fun b hb k=>by rw[hx1.block b (by have:=eg.size;omega) (by show ¬_<=_;omega)];exact eg.block b hb k⟩⟩
def b8 (r:Row):List Value:=r.v.map (.int .i64)
@[simp] theorem lp (r:Row):(b8 r).length=256:=by simp[b8,r.len]
def Cs:iM Row:=.record 256 (by decide) b8 lp (fun r v hv=>by simp[b8] at hv;obtain⟨_,_,rfl⟩:=hv;rfl)
def nX (h:ay) (db:Nat) (d:cg):Prop :=
 ∃vn vr,br h db 160 [vn,vr]/\cn Cs h (fun _=>False) vn d.next/\cn (.int .i64) h (fun _=>False) vr d.rule
theorem nX.ax {h h':ay}{db:Nat}{d:cg}(k:nX h db d) (e:aD h h'):nX h' db d:=by
 obtain⟨vn,vr,h1,h2,h3⟩:=k;exact⟨vn,vr,h1.ax e,h2.mv (Mv.ax e),h3.mv (Mv.ax e)⟩
def HN (h:ay) (p:Value) (d:cg):Prop:=(p= .pointer none/\d=⟨[],[]⟩)\/∃db,p= .pointer (some ⟨db,0,none⟩)/\nX h db d
theorem DK:ah Tryz.prog 121 #[.pointer none] h (bX fun r h'=>r= .bool true/\h'=h):=by
 refine ah.of func121 rfl rfl ?_;refine aY func121 1 [0,2] rfl ?_;refine au rfl ?_;refine G.bu [(2,.bool true)] [(0,_)] ⟨rfl,trivial⟩ func121 rfl ?_ ?_
 · refine cx 1 rfl rfl (ak.qE underlying117 rfl rfl) ?_;refine aV 1 rfl ?_;refine RW.dZ (d:=5) (b':=true) rfl (rfl) ?_;refine aV 8 rfl ?_;refine aC rfl ?_;exact⟨rfl,az rfl (rfl),rfl,trivial⟩
 · refine aK func121 rfl rfl ?_;exact⟨_,rfl,rfl,rfl⟩
theorem Ac (k:nX h db d):ah Tryz.prog 121 #[.pointer (some ⟨db,0,none⟩)] h (bX fun r h'=>r= .bool (decide (d.next.length=0))/\h'=h):=by
 obtain⟨vn,vr,hk,⟨na,nn,nc,rfl,hnl,_⟩,h2⟩:=k;refine ah.of func121 rfl rfl ?_;refine aY func121 1 [0,2] rfl ?_;refine au rfl ?_;refine G.bu [(2,.bool (decide (d.next.length=0)))] [(0,_)] ⟨rfl,trivial⟩ func121 rfl ?_ ?_
 · refine cx 1 rfl rfl (ak.qE underlying117 rfl rfl) ?_;refine aV 1 rfl ?_;refine RW.dZ (d:=5) (b':=false) rfl (rfl) ?_;refine cx 2 rfl rfl (aa (off:=0) underlying160 rfl rfl H.jV rfl) ?_;refine xp rfl (af H.qi rfl (hk.cell (i:=0) rfl)) ?_;refine xp rfl (ak.aN underlying158 rfl) ?_;refine aV 3 rfl ?_;refine aC rfl ?_;exact⟨rfl,az rfl (by simp only[decide_eq_decide];omega),rfl,trivial⟩
 · refine aK func121 rfl rfl ?_;exact⟨_,rfl,rfl,rfl⟩
theorem Ab (k:HN h p d):ah Tryz.prog 121 #[p] h (bX fun r h'=>r= .bool (decide (d.next.length=0))/\h'=h):=by
 rcases k with ⟨rfl,rfl⟩|⟨db,rfl,k⟩
 · exact DK
 · exact Ac k
theorem xV {s:By}{a:Int}(k:HN h p d) (hok:d.Ok) (hs:s.length<=1000000) :
 ah Tryz.prog 142 #[p,.string (bs s),.int .i64 a] h (bX fun r h'=>r= .tuple #[.int .i64 (dx d s a).1,.int .i64 (dx d s a).2.1,.int .i64 (dx d s a).2.2]/\h'=h):=by
 have hbs:=aZ s;refine ah.of func142 rfl rfl ?_;refine aY func142 3 [0,1,2,6,7,8] rfl ?_;refine aY func142 1 [0,1,2,6,7,8] rfl ?_;refine au rfl ?_;refine au rfl ?_;refine G.bu [(22,.bool (decide (d.next.length=0\/a<0\/(s.length:Int)<a)))] [(0,_),(1,_),(2,_),(6,_),(7,_),(8,_)] ⟨rfl,rfl,rfl,rfl,rfl,rfl,trivial⟩ func142 rfl ?_ ?_
 · refine aV 1 rfl ?_;refine xo rfl (aj (vs:=[_]) func121 rfl H.Hw rfl (ah.aX (Ab k))) ?_;rintro _ h0 ⟨rfl,hh0⟩;subst hh0;refine aV 1 rfl ?_;refine aH (d:=13) rfl (fun hg=>?_) (fun hg=>?_)
   · have hg':=of_decide_eq_true hg;refine aV 9 rfl ?_;refine aC rfl ?_;exact⟨rfl,az rfl (by simp[hg']),rfl,rfl,rfl,rfl,rfl,rfl,trivial⟩
   · have hg':=of_decide_eq_false hg;refine aV 4 rfl ?_;refine aH (d:=17) rfl (fun hg2=>?_) (fun hg2=>?_)
     · have hg2':=of_decide_eq_true hg2;refine aV 5 rfl ?_;refine aC rfl ?_;exact⟨rfl,az rfl (by simp[hg2']),rfl,rfl,rfl,rfl,rfl,rfl,trivial⟩
     · have hg2':=of_decide_eq_false hg2;refine cx 2 rfl rfl (ak.bp underlying9 rfl) ?_;refine aV 2 rfl ?_;refine aC rfl ?_;exact⟨rfl,az rfl (by simp only[decide_eq_decide];omega),rfl,rfl,rfl,rfl,rfl,rfl,trivial⟩
 · refine aG rfl rfl (fun hz=>?_) (fun hz=>?_)
   · refine aY func142 4 [0,1,2,6,7,8,22] rfl ?_;refine aK func142 rfl rfl ?_;rw[dx,if_pos hz];exact⟨_,rfl,rfl,rfl⟩
   · obtain⟨k0,rfl⟩:=Int.eq_ofNat_of_zero_le (show 0<=a by omega);have hk0:k0<=s.length:=by omega
     have hma:dx d s (k0:Nat)=bz d (s.drop k0) 0 0 (0,-1):=by rw[dx,if_neg hz];rfl
     rw[hma];generalize htgt:bz d (s.drop k0) 0 0 (0,-1)=tgt
     rcases k with ⟨_,rfl⟩|⟨db,rfl,vn,vr,hk,⟨na,nn,nc,rfl,hnl,_,_,hgetn⟩,⟨ra,rn,rc,rfl,hrl,_,_,hgetr⟩⟩
     exact absurd (.inl rfl) hz;have hlen:=hok.len;have hsize:=hok.size;refine aA rfl ?_;refine au rfl ?_;refine aY func142 1 [0,1,2,6,7,8,9,22] rfl ?_;refine G.block rfl rfl ?_;refine bT (σ:=Int×Nat×Int×Int) (fun q=>[(0,.pointer (some ⟨db,0,none⟩)),(1,.string (bs s)),(2,.int .i64 (k0:Nat)),(6,.int .i64 q.2.2.1),(7,.int .i64 q.2.2.2),(8,.int .i64 (q.2.1:Nat)),(9,.int .i64 q.1)]) (fun q h'=>h'=h/\k0+q.2.1<=s.length/\(0<=q.1->q.1<d.next.length/\bz d (s.drop (k0+q.2.1)) q.1.toNat q.2.1 q.2.2=tgt)/\(q.1<0->(q.2.2.1,q.2.2.2,(q.2.1:Int))=tgt)) (fun q=>2*(s.length-(k0+q.2.1))+(if 0<=q.1 then 1 else 0)) ((0,0,0,-1)) rfl ⟨rfl,rfl,rfl,rfl,rfl,rfl,rfl,trivial⟩ ⟨rfl,by simpa using hk0,fun _=>⟨by show (0:Int)<_;omega,by simpa using htgt⟩,fun k=>absurd k (by decide)⟩ ?_;rintro⟨st,i,b1,b2⟩ g ⟨rfl,hki,hpos,hneg⟩ ih
     try dsimp only
     dsimp only at hki hpos hneg;refine au rfl ?_;refine aY func142 2 [0,1,2,6,7,8,9,25] rfl ?_;refine aG rfl rfl (fun hst=>?_) (fun hst=>?_)
     · obtain⟨hlt,hcon⟩:=hpos hst;obtain⟨j,rfl⟩:=Int.eq_ofNat_of_zero_le hst;have hcon:bz d (s.drop (k0+i)) j i (b1,b2)=tgt:=hcon;obtain⟨x,hx⟩:∃x,d.rule[j]? =some x:=⟨_,List.getElem?_eq_getElem (by omega)⟩
       have hru:d.ru j=x:=by unfold cg.ru;rw[List.getD_eq_getElem?_getD,hx];rfl
       obtain⟨b,o,cs,ha,_,hrow,rfl⟩:=hgetr j x hx;refine aA rfl ?_;refine G.block rfl rfl ?_;refine au rfl ?_;refine bB func142 2 rfl ?_;refine xp rfl (aa (off:=1) underlying160 rfl rfl H.fS rfl) ?_;refine xp rfl (af H.lB rfl (hk.cell (i:=1) rfl)) ?_;refine cx 1 rfl rfl (ak.aF underlying44 H.aQ rfl rfl j rfl ha (by omega)) ?_;refine xp rfl (af H.bD rfl (hrow 0 _ rfl)) ?_;refine aS 1 [0,1,2,6,7,8,9,10,25] rfl ?_;refine aY func142 2 [0,1,2,6,7,8,9,10,25,34] rfl ?_
       have fin:∀(c1 c2:Int) (h':ay) (ρ':Env),Sub [(0,.pointer (some ⟨db,0,none⟩)),(1,.string (bs s)),(2,.int .i64 (k0:Nat)),(6,.int .i64 c1),(7,.int .i64 c2),(8,.int .i64 (i:Nat)),(9,.int .i64 (j:Nat))] ρ'->h'=g->(c1,c2)=(if 0<=d.ru j then ((i:Int),d.ru j) else (b1,b2))->G Tryz.prog 142 f142 [.code [1,0,1,0,0,1,0,1,1,1],.blk 1,.loop [0,0,1,0,1,1,1],.blk 0,.code [1,1,1,1]] ρ' h' (bX fun r h'=>r= .tuple #[.int .i64 tgt.1,.int .i64 tgt.2.1,.int .i64 tgt.2.2]/\h'=g):=by
        rintro c1 c2 g1 ρ' hsub rfl hc;refine G.sub (ρ':=[(0,.pointer (some ⟨db,0,none⟩)),(1,.string (bs s)),(2,.int .i64 (k0:Nat)),(6,.int .i64 c1),(7,.int .i64 c2),(8,.int .i64 (i:Nat)),(9,.int .i64 (j:Nat))]) hsub ?_;refine au rfl ?_;refine bB func142 2 rfl ?_;refine xp rfl (ak.bL rfl rfl ⟨by omega,by omega⟩) ?_;refine cx 1 rfl rfl (ak.bp underlying9 rfl) ?_;refine aS 1 [0,1,2,6,7,8,9,42] rfl ?_;refine aG rfl rfl (fun hend=>?_) (fun hend=>?_)
        · have hd:s.drop (k0+i)=[]:=List.drop_of_length_le (by omega);rw[hd,bz] at hcon
          have hcon:(c1,c2,(i:Int))=tgt:=by
           rw[<-hcon]
           by_cases h0:0<=d.ru j
           · rw[if_pos h0] at hc ⊢;cases hc;rfl
           · rw[if_neg h0] at hc ⊢;cases hc;rfl
          refine bN rfl rfl ?_;refine aY func142 6 [0,1,2,6,7,8,9,42] rfl ?_;refine aK func142 rfl rfl ?_;exact⟨_,rfl,by rw[<-hcon];rfl,rfl⟩
        · have hki2:k0+i<s.length:=by omega
          have hd:s.drop (k0+i)=s[k0+i]::s.drop (k0+i+1):=List.drop_eq_getElem_cons hki2;rw[hd,bz,<-hc] at hcon;obtain⟨r,hr⟩:∃r,d.next[j]? =some r:=⟨_,List.getElem?_eq_getElem (by omega)⟩
          obtain⟨b3,o3,cs3,ha3,_,hrow3,rfl⟩:=hgetn j r hr;obtain⟨y,hy,he,_⟩:=r.at s[k0+i];have hc8:=s[k0+i].toNat_lt;have hto:d.to j s[k0+i]=y:=by unfold cg.to;rw[hr];exact he
          have hb:=cg.o8 hok (s:=j) s[k0+i];rw[hto] at hcon hb;have hcell:cellAt g1 ⟨b3,o3+j*256+s[k0+i].toNat*1,none⟩=some (.int .i64 y):=by rw[Nat.mul_one];exact hrow3 _ _ (by simp[b8,hy])
          refine aA rfl ?_;refine au rfl ?_;refine G.ur func142 H.mixed rfl (by kernel_rfl) ?_;refine RQ.aU rfl rfl rfl rfl (bS rfl) ?_;refine RQ.aU rfl rfl rfl rfl (cB rfl) ?_;refine RQ.aU rfl rfl rfl rfl (aa (off:=0) underlying160 rfl rfl H.jV rfl) ?_;refine RQ.aU rfl rfl rfl rfl (af H.qi rfl (hk.cell (i:=0) rfl)) ?_;refine RQ.aU rfl rfl rfl rfl (bS rfl) ?_;refine RQ.aU rfl rfl rfl rfl (bS rfl) ?_;refine RQ.aU rfl rfl rfl rfl (bS rfl) ?_;refine RQ.aU rfl rfl rfl rfl (bS rfl) ?_;refine RQ.aU rfl rfl rfl rfl (ak.bL rfl rfl ⟨by omega,by omega⟩) ?_;refine RQ.aU rfl rfl rfl rfl (ak.iA underlying9 rfl rfl (k0+i) (by omega) (rP (List.getElem?_eq_getElem hki2))) ?_;refine RQ.aU rfl rfl rfl rfl (ak.aF underlying158 H.jU rfl rfl j rfl ha3 (by omega)) ?_;refine RQ.aU rfl rfl rfl rfl (ak.dW underlying164 H.aQ rfl rfl s[k0+i].toNat rfl (by omega)) ?_;refine RQ.aU rfl rfl rfl rfl (af H.bD rfl hcell) ?_;refine RQ.aU rfl rfl rfl rfl (ak.assign rfl) ?_;refine iX rfl ?_;refine xu [0,1,2,6,7,8,9,42] rfl ?_;refine aY func142 2 [0,1,2,6,7,8,9,42,57] rfl ?_;refine aG rfl rfl (fun hy0=>?_) (fun hy0=>?_)
          · rw[if_pos hy0] at hcon;obtain⟨j2,rfl⟩:=Int.eq_ofNat_of_zero_le hy0;refine G.bV func142 rfl ?_;refine cx 1 rfl rfl (ak.bL rfl rfl ⟨by omega,by omega⟩) ?_;refine aS 1 [0,1,2,6,7,8,9,42,57] rfl ?_;refine G.aT ?_;exact ih ((j2:Int),i+1,c1,c2) _ _ ⟨rfl,rfl,rfl,rfl,rfl,rfl,rfl,trivial⟩ ⟨rfl,by show k0+(i+1)<=s.length;omega,fun _=>⟨hb.2,by show bz d (s.drop (k0+(i+1))) _ _ _=tgt;rw[show k0+(i+1)=k0+i+1 by omega];exact hcon⟩,fun k=>absurd k (by show ¬(j2:Int)<0;omega)⟩ (by show 2*(s.length-(k0+(i+1)))+(if (0:Int)<=(j2:Nat) then 1 else 0)<2*(s.length-(k0+i))+(if (0:Int)<=(j:Nat) then 1 else 0);rw[if_pos (by omega),if_pos (by omega)];omega)
          · rw[if_neg hy0] at hcon;refine aA rfl ?_;refine G.aT ?_;exact ih (y,i,c1,c2) _ _ ⟨rfl,rfl,rfl,rfl,rfl,rfl,rfl,trivial⟩ ⟨rfl,hki,fun k=>absurd k hy0,fun _=>by show (c1,c2,(i:Int))=tgt;rw[<-hcon];by_cases h0:0<=d.ru j;(rw[if_pos h0] at hc ⊢;cases hc;rfl);(rw[if_neg h0] at hc ⊢;cases hc;rfl)⟩ (by show 2*(s.length-(k0+i))+(if (0:Int)<=y then 1 else 0)<2*(s.length-(k0+i))+(if (0:Int)<=(j:Nat) then 1 else 0);rw[if_neg hy0,if_pos (by omega)];omega)
       refine aG rfl rfl (fun hr=>?_) (fun hr=>?_)
       · refine G.bV func142 rfl ?_;refine aS 4 [0,1,2,6,7,8,9,10,25,34] rfl ?_;exact fin _ _ _ _ ⟨rfl,rfl,rfl,rfl,rfl,rfl,rfl,trivial⟩ rfl (by rw[hru,if_pos hr])
       · refine aA rfl ?_;exact fin _ _ _ _ ⟨rfl,rfl,rfl,rfl,rfl,rfl,rfl,trivial⟩ rfl (by rw[hru,if_neg hr])
     · have hcon:=hneg (by omega);refine bN rfl rfl ?_;refine aY func142 6 [0,1,2,6,7,8,9,25] rfl ?_;refine aK func142 rfl rfl ?_;exact⟨_,rfl,by rw[<-hcon];rfl,rfl⟩
def Kl (h:ay) (O:Nat->Prop) (cs:List Value) (x:List Nat):Prop:=∃v,cs=[v]/\cn gI h O v x
def BA:iM (List Nat):=⟨1,by decide,Kl,fun h=>by obtain⟨v,rfl,_⟩:=h;rfl,fun h=>by
 obtain⟨v,rfl,hv⟩:=h;intro u hu;simp at hu;subst hu;exact cn.HB hv,fun h m=>by
 obtain⟨v,hc,hv⟩:=h;exact⟨v,hc,hv.mv m⟩⟩
def lZ:Nat->List (List Nat)->List (ByteArray×Int)
 |_,[]=>[]
 |i,x::r=>(bs (xL x),(i:Int))::lZ (i+1) r
theorem vM:∀(ls:List (List Nat)) (i:Nat) (l:List Nat),lZ i (ls++[l])=lZ i ls++[(bs (xL l),((i+ls.length:Nat):Int))]
 | [],i,l=>by simp[lZ]
 |x::r,i,l=>by
  simp only[List.cons_append,lZ];rw[vM r (i+1) l,List.length_cons,show i+1+r.length=i+(r.length+1) by omega]
theorem uH:∀(ls:List (List Nat)) (i:Nat) (l:List Nat),kI (bs (xL l)) (lZ i ls)=(nS i ls l).map fun j=>(j:Int)
 | [],i,l=>rfl
 |x::r,i,l=>by
  rw[lZ,kI,nS]
  by_cases h:l=x
  · subst h;rw[if_pos rfl,if_pos rfl];rfl
  · have hk:¬bs (xL l)=bs (xL x):=fun e=>h (E8 (gE e))
    rw[if_neg hk,if_neg h];exact uH r (i+1) l
theorem Av {l:List Nat}(k:cn gI h O v l):cn (.int .i64) h O v (l.map Int.ofNat):=by
 obtain⟨oa,n,c,rfl,hl,hnc,hc,hg⟩:=k;refine⟨oa,n,c,rfl,by simpa using hl,hnc,hc,fun i x hx=>?_⟩;rw[List.getElem?_map] at hx;cases hs:l[i]? with
 |none=>rw[hs] at hx;cases hx
 |some s =>
  rw[hs] at hx;simp only[Option.map_some,Option.some.injEq] at hx;subst hx;obtain⟨b,o,cs,h1,h2,h3,h4⟩:=hg i s hs;exact⟨b,o,cs,h1,h2,h3,h4⟩
structure iK (h0 h:ay) (C:Nat->Prop) (db mb:Nat) (vl vn vr:Value) (lists:List (List Nat)) (next:List Row) (rule:List Int):Prop where
 ext:aD h0 h
 dblk:br h db 160 [vn,vr]
 nx:rW 256 b8 h h0.size 164 vn next
 ru:cN (Value.int .i64) h h0.size 3 vr rule
 mp:fy Value.string (Value.int .i64) h mb (lZ 0 lists)
 ls:gO BA (fun b=>¬C b) h h0.size 44 vl lists
 cty:∀b,C b->dy h b 3
 cr:∀b,vr.ownBlock=some b->¬C b
 dge:h0.size<=db
 mge:h0.size<=mb
section
variable {h0 h:ay}{C:Nat->Prop}{db mb:Nat}{vl vn vr:Value}{lists:List (List Nat)}{next:List Row}{rule:List Int}
theorem iK.EW (k:iK h0 h C db mb vl vn vr lists next rule):∀b,vl.ownBlock=some b->dy h b 44:=fun b hb=>by
 obtain⟨css,_,h2,_⟩:=k.ls;exact h2.ty hb
theorem iK.Dg (k:iK h0 h C db mb vl vn vr lists next rule):∀b,vn.ownBlock=some b->dy h b 164:=fun _ hb=>aM.ty k.nx hb
theorem iK.B8 (k:iK h0 h C db mb vl vn vr lists next rule):∀b,vr.ownBlock=some b->dy h b 3:=fun _ hb=>aM.ty k.ru hb
theorem iK.Lp (k:iK h0 h C db mb vl vn vr lists next rule):∀b,vl.ownBlock=some b->h0.size<=b:=fun b hb=>by
 obtain⟨css,_,h2,_⟩:=k.ls;exact(h2.lt hb).1
theorem iK.ax {h':ay}(k:iK h0 h C db mb vl vn vr lists next rule) (e:aD h h'):iK h0 h' C db mb vl vn vr lists next rule :=
 ⟨k.ext.trans e,k.dblk.ax e,rW.ax k.nx e,cN.ax k.ru e,k.mp.ext e (fun k=>k),k.ls.ax e,fun b hb=>(k.cty b hb).ext e (fun k=>k),k.cr,k.dge,k.mge⟩
theorem iK.put {x:Nat}(k:iK h0 h C db mb vl vn vr lists next rule) (e:Ext (fun b=>b=x) h h') (hx:dy h x 164) (hn:vn.ownBlock≠some x) (hge:h0.size<=x):iK h0 h' C db mb vl vn vr lists next rule:=by
 have hd:¬db=x:=k.dblk.ty.ne hx (by decide);have hm:¬mb=x:=k.mp.ne hx;have hl:∀b,vl.ownBlock=some b->¬b=x:=fun b hb=>(k.EW b hb).ne hx (by decide)
 have hr:∀b,vr.ownBlock=some b->¬b=x:=fun b hb=>(k.B8 b hb).ne hx (by decide)
 have hc:∀b,C b->¬b=x:=fun b hb=>(k.cty b hb).ne hx (by decide)
 exact⟨aD.only k.ext e hge,k.dblk.ext e hd,aM.ext e k.nx (fun b hb hbx=>hn (by subst hbx;exact hb)),aM.ext e k.ru hr,k.mp.ext e hm,
  k.ls.D8 e hl (fun b _ hb hC=>hc b hC hb) (fun _ _ k=>k),fun b hb=>(k.cty b hb).ext e (hc b hb),k.cr,k.dge,k.mge⟩
end
section
variable {h0 h:ay}{C:Nat->Prop}{db mb:Nat}{vl vn vr:Value}{lists:List (List Nat)}{next:List Row}{rule:List Int}
theorem iK.HT {r:Row}(k:iK h0 h C db mb vl vn vr lists next rule) (hn:n=next.length) (ho:aM g3 h0.size 164 256 v3 (n+1) (next.flatMap b8++b8 r)) (hx:Ext (dn vn.ownBlock) h g3) (hd:br g4 db 160 [v3,vr]) (x4:Ext (fun b=>b=db) g3 g4) :
 iK h0 g4 C db mb vl v3 vr lists (next++[r]) rule:=by
 have nne:∀{b:Nat}{t:TypeId},dy h b t->164≠t->¬dn vn.ownBlock b:=fun kt ht e=>(k.Dg _ e.symm).ne kt ht rfl
 have d3:=k.dblk.ext hx (nne k.dblk.ty (by decide));have dne:∀{b:Nat}{t:TypeId},dy g3 b t->160≠t->¬b=db:=fun kt ht e=>by subst e;exact d3.ty.ne kt ht rfl
 have mne:¬dn vn.ownBlock mb:=fun e=>k.mp.ne (k.Dg _ e.symm) rfl
 have hm3:=k.mp.ext hx mne;have hdlt:=k.dblk.lt;have ru3:=aM.ext hx k.ru (fun b hb=>nne (k.B8 b hb) (by decide));have ls3:gO BA (fun b=>¬C b) g3 h0.size 44 vl lists:=k.ls.D8 hx (fun b hb=>nne (k.EW b hb) (by decide)) (fun b _ hb hC=>nne (k.cty b hC) (by decide) hb) (fun _ _ k=>k);have lty3:∀b,vl.ownBlock=some b->dy g3 b 44:=fun b hb=>(k.EW b hb).ext hx (nne (k.EW b hb) (by decide))
 have cty3:∀b,C b->dy g3 b 3:=fun b hb=>(k.cty b hb).ext hx (nne (k.cty b hb) (by decide))
 refine⟨⟨by have:=k.ext.size;have:=hx.size;have:=x4.size;omega,fun b hb kk=>?_⟩,hd,?_,aM.ext x4 ru3 (fun b hb=>dne (aM.ty ru3 hb) (by decide)),hm3.ext x4 (hm3.ne d3.ty),ls3.D8 x4 (fun b hb=>dne (lty3 b hb) (by decide)) (fun b _ hb hC=>dne (cty3 b hC) (by decide) hb) (fun _ _ k=>k),fun b hb=>(cty3 b hb).ext x4 (dne (cty3 b hb) (by decide)),k.cr,k.dge,k.mge⟩
 · rw[x4.block b (by have:=k.ext.size;have:=hx.size;omega) (by have:=k.dge;omega),hx.block b (by have:=k.ext.size;omega) (fun e=>by have:=(aM.lt k.nx e.symm).1;omega)];exact k.ext.block b hb kk
 · exact aM.ext x4 (rW.of ho hn rfl) (fun b hb=>dne (aM.ty ho hb) (by decide))
theorem iK.HS {x:Int}(k:iK h0 h C db mb vl vn vr lists next rule) (hn:n=rule.length) (ho:aM g3 h0.size 3 1 v3 (n+1) (rule.map (Value.int .i64)++[.int .i64 x])) (hx:Ext (dn vr.ownBlock) h g3) (hv:∀b,v3.ownBlock=some b->vr.ownBlock=some b\/h.size<=b) (hd:br g4 db 160 [vn,v3]) (x4:Ext (fun b=>b=db) g3 g4) :
 iK h0 g4 C db mb vl vn v3 lists next (rule++[x]):=by
 have nne:∀{b:Nat}{t:TypeId},dy h b t->3≠t->¬dn vr.ownBlock b:=fun kt ht e=>(k.B8 _ e.symm).ne kt ht rfl
 have cne:∀{b:Nat},C b->¬dn vr.ownBlock b:=fun hC e=>k.cr _ e.symm hC
 have d3:=k.dblk.ext hx (nne k.dblk.ty (by decide));have dne:∀{b:Nat}{t:TypeId},dy g3 b t->160≠t->¬b=db:=fun kt ht e=>by subst e;exact d3.ty.ne kt ht rfl
 have mne:¬dn vr.ownBlock mb:=fun e=>k.mp.ne (k.B8 _ e.symm) rfl
 have hm3:=k.mp.ext hx mne;have nx3:=aM.ext hx k.nx (fun b hb=>nne (k.Dg b hb) (by decide));have ls3:gO BA (fun b=>¬C b) g3 h0.size 44 vl lists:=k.ls.D8 hx (fun b hb=>nne (k.EW b hb) (by decide)) (fun b _ hb hC=>cne hC hb) (fun _ _ k=>k);have lty3:∀b,vl.ownBlock=some b->dy g3 b 44:=fun b hb=>(k.EW b hb).ext hx (nne (k.EW b hb) (by decide))
 have cty3:∀b,C b->dy g3 b 3:=fun b hb=>(k.cty b hb).ext hx (cne hb)
 refine⟨⟨by have:=k.ext.size;have:=hx.size;have:=x4.size;omega,fun b hb kk=>?_⟩,hd,aM.ext x4 nx3 (fun b hb=>dne (aM.ty nx3 hb) (by decide)),?_,hm3.ext x4 (hm3.ne d3.ty),ls3.D8 x4 (fun b hb=>dne (lty3 b hb) (by decide)) (fun b _ hb hC=>dne (cty3 b hC) (by decide) hb) (fun _ _ k=>k),fun b hb=>(cty3 b hb).ext x4 (dne (cty3 b hb) (by decide)),fun b hb hC=>?_,k.dge,k.mge⟩
 · rw[x4.block b (by have:=k.ext.size;have:=hx.size;omega) (by have:=k.dge;omega),hx.block b (by have:=k.ext.size;omega) (fun e=>by have:=(aM.lt k.ru e.symm).1;omega)];exact k.ext.block b hb kk
 · exact aM.ext x4 (cN.of (ys:=[x]) ho hn rfl rfl) (fun b hb=>dne (aM.ty ho hb) (by decide))
 · rcases hv b hb with e|e
   · exact k.cr b e hC
   · have:=(k.cty b hC).lt;omega
end
def yo (res:Int ⊕ cg) (h':ay) (r:Value):Prop:=match res with
 |.inl e=>r= .tuple #[.pointer none,.int .i64 e]
 |.inr d=>∃db,r= .tuple #[.pointer (some ⟨db,0,none⟩),.int .i64 0]/\nX h' db d
theorem Ad {nb:Nat}{ss:List bR}{st:Nat}(htens:si h) (hn:cu h O nb v ss st) (hgood:Good ss) (hss:ss.length<=30000) (hst:st<ss.length) (hpot1:1+qX ss (List.replicate ss.length false)<=1000000)
 (hpot:∀c now,List.Sublist now (List.range ss.length)->(stepG ss c now []).length+qX ss (List.replicate ss.length false)<=1000000) :
 ah Tryz.prog 103 #[.pointer (some ⟨nb,0,none⟩)] h (bX fun r h'=>yo (gf ss st) h' r/\aD h h'):=by
 generalize hres:gf ss st=res
 have hint:∀l:List Nat,l.Sublist (List.range ss.length)->(l.map Int.ofNat).length<=1000000/\∀n∈l.map Int.ofNat,-9223372036854775808<=n/\n<=9223372036854775807:=fun l hl=>by
  have h1:=hl.length_le;rw[List.length_range] at h1;refine⟨by rw[List.length_map];omega,fun n hn=>?_⟩;obtain⟨j,hj,rfl⟩:=List.mem_map.1 hn;have:=List.mem_range.1 (hl.subset hj);simp only[Int.ofNat_eq_natCast];omega
 refine ah.of func103 rfl rfl ?_;refine aY func103 2 [0,2,3] rfl ?_;refine bB func103 1 rfl ?_;refine xo rfl (aj (vs:=[_]) func117 rfl H.JH rfl (ah.aX (yL hn hgood (by omega) (.inr hst) hpot1))) ?_;rintro w4 h1 ⟨ho1,e1⟩;have hsub0:=AN ss st;generalize hl0:cG ss st=l0 at *;have hi0:=hint l0 hsub0;obtain⟨wa,wc,rfl,_⟩:=(show aM h1 h.size 3 1 w4 l0.length (l0.map cZ) from ho1).open;refine aS 1 [0,2,3,4] rfl ?_;refine au rfl ?_;refine bB func103 1 rfl ?_;refine xp rfl (ak.aN underlying44 rfl) ?_;refine aS 1 [0,2,3,4,18] rfl ?_;refine aG rfl rfl (fun hz=>?_) (fun hz=>?_)
 · refine aY func103 2 [0,2,3,4,18] rfl ?_;refine aK func103 rfl rfl ?_;have:res= .inl 1:=by rw[<-hres,gf,hl0,if_pos (by omega)]
   subst this;exact⟨_,rfl,rfl,e1⟩
 · have hres':res=match jP ss 2002 0 [l0] [] [] with|none=>.inl 70|some d=>.inr d:=by rw[<-hres,gf,hl0,if_neg (by omega)]<;>rfl
   refine aA rfl ?_;refine xr func103 rfl ?_;refine xp rfl (aP (H.FG ) rfl) ?_;refine xo rfl (av.cR rfl) ?_;rintro _ h2 ⟨rfl,k2,e2,z2⟩;refine aS 1 [0,2,3,4,5,18] rfl ?_;refine xr func103 rfl ?_;refine xo rfl (mU (ek:=Value.string) (ev:=Value.int .i64)) ?_;rintro _ h3 ⟨rfl,hm3,e3,z3⟩;have k2:br h2 h1.size 160 [.slice none 0 0,.slice none 0 0]:=k2;have e13:=e2.trans e3;have hz1:=e1.size;refine aV 1 rfl ?_;refine xo rfl (aj (vs:=[_]) func118 rfl H.Cg rfl (ah.aX (qC ((htens.ax e1).ax e13) (Av (cn.mv (cN.read (O:=fun _=>False) (h1:=fun _=>rfl) ho1 (fun _ _ k=>k)) (Mv.ax e13))) hi0.1 hi0.2))) ?_;rintro _ h4 ⟨rfl,e4⟩;have hm4:=hm3.ext e4 (fun k=>k);have z4:=e4.size;refine RW.bh rfl rfl rfl (uQ (v:=(0:Int)) js.str underlying162 underlying9 rfl rfl rfl rfl rfl hm4 (rfl:kI (bs (gv (l0.map Int.ofNat))) []=none)) ?_;rintro _ h5 ⟨rfl,hm5,x5,z5⟩;have hm5:fy Value.string (Value.int .i64) h5 h2.size (lZ 0 [l0]):=hm5;have e05:aD h h5:=aD.only ((e1.trans e13).trans e4) x5 (by omega);have ho5:cN cZ h5 h.size 3 (.slice wa l0.length wc) l0:=aM.ext x5 (cN.ax (cN.ax ho1 e13) e4) (fun b hb (e:b=h2.size)=>by have:=(aM.lt ho1 hb).2;omega);have k5:br h5 h1.size 160 [.slice none 0 0,.slice none 0 0]:=((k2.ax e3).ax e4).ext x5 (by show ¬_=_;omega);refine aS 2 [0,2,3,4,5,6,18] rfl ?_;refine bB func103 1 rfl ?_;refine xo rfl (av.bC (us:=[_]) underlying163 H.Ir rfl rfl (by decide) (by simp[Value.oneCell'])) ?_;rintro _ _ ⟨rfl,rfl⟩;refine aS 1 [0,2,3,4,5,6,7,18] rfl ?_;refine au rfl ?_;refine aY func103 1 [0,2,3,4,5,6,7,8,18] rfl ?_;refine G.block rfl rfl ?_;have e56:aD h5 (h5.push (.cells #[.slice wa l0.length wc] 44)):=Ext.push _ _ _
   have ls6:gO BA (fun b=>¬dn (Value.slice wa l0.length wc).ownBlock b) (h5.push (.cells #[.slice wa l0.length wc] 44)) h.size 44 (.slice (some ⟨h5.size,0,none⟩) 1 1) [l0] :=
    gO.pO (e:=BA) (cs:=[.slice wa l0.length wc]) ⟨_,rfl,aM.G8 (h1:=fun _=>rfl) ho5 (fun b hb k=>k hb.symm)⟩ e05.size
   generalize h5.push (.cells #[.slice wa l0.length wc] 44)=h6 at *
   have mk6:iK h h6 (dn (Value.slice wa l0.length wc).ownBlock) h1.size h2.size (.slice (some ⟨h5.size,0,none⟩) 1 1) (.slice none 0 0) (.slice none 0 0) [l0] [] [] :=
    ⟨e05.trans e56,k5.ax e56,rW.nil _ _ _ _ _,cN.nil _ _ _ _,hm5.ext e56 (fun k=>k),ls6,fun b hb=>dy.ext (aM.ty ho5 hb.symm) e56 (fun k=>k),fun b hb=>(by cases hb),hz1,by omega⟩
   refine bT (σ:=Nat×Value) (fun q=>[(0,.pointer (some ⟨nb,0,none⟩)),(5,.pointer (some ⟨h1.size,0,none⟩)),(6,.map (some h2.size)),(7,q.2),(8,.int .i64 (q.1:Nat))]) (fun q h'=>∃C vn vr lists next rule,iK h h' C h1.size h2.size q.2 vn vr lists next rule/\q.1<=lists.length/\lists.length<=2000/\(next.length=q.1/\rule.length=q.1)/\(∀l∈lists,l.Sublist (List.range ss.length))/\res=(match jP ss (2002-q.1) q.1 lists next rule with|none=>.inl 70|some d=>.inr d)) (fun q=>2002-q.1) ((0,.slice (some ⟨h5.size,0,none⟩) 1 1)) rfl ⟨rfl,rfl,rfl,rfl,rfl,trivial⟩ ⟨_,_,_,[l0],[],[],mk6,Nat.zero_le _,by simp,⟨rfl,rfl⟩,fun l hl=>by simp at hl;subst hl;exact hsub0,hres'⟩ ?_;rintro⟨i,vl⟩ g ⟨C,vn,vr,lists,next,rule,mk,hi,hl2,⟨hnl,hrl⟩,hsl,hcon⟩ ih
   try dsimp only
   dsimp only at mk hi hnl hrl hcon;obtain⟨css,hc1,hc2,hc3⟩:=id mk.ls;obtain⟨la,lc,rfl,_⟩:=hc2.open;have hng:cu g O nb v ss st:=hn.ax mk.ext (fun _ _ k=>k);have mkg:=mk;refine au rfl ?_;refine bB func103 2 rfl ?_;refine xp rfl (ak.aN underlying163 rfl) ?_;refine aS 1 [0,5,6,7,8,30] rfl ?_;refine aG rfl rfl (fun hlt=>?_) (fun hlt=>?_)
   · have hil:i<lists.length:=by omega
     obtain⟨cur,hcur⟩:∃cur,lists[i]? =some cur:=⟨_,List.getElem?_eq_getElem hil⟩
     have hcsub:=hsl cur (List.mem_of_getElem? hcur);obtain⟨n,hnn⟩:∃n,2002-i=n+1:=⟨2001-i,by omega⟩
     rw[hnn,jP,hcur] at hcon;simp only at hcon;generalize hrow:kQ ss cur 256 0 lists []=tgt at hcon;refine aA rfl ?_;refine au rfl ?_;refine G.block rfl rfl ?_;refine xr func103 rfl ?_;refine xo rfl (av.aW H.BX) ?_;rintro _ g1 ⟨rfl,kz,ez,zz⟩;have kz:br g1 g.size 164 (([]:List Int).map (Value.int .i64)++List.replicate (256-0) (Value.int .i64 0)):=kz;have Gj:=mk.ax ez;have hvz:vn.ownBlock≠some g.size:=fun e=>by have:=(mk.Dg _ e).lt;omega
     refine xd [0,5,6,7,8,9,30] rfl ?_;refine au rfl ?_;refine aY func103 1 [0,5,6,7,8,9,30,33] rfl ?_;refine G.block rfl rfl ?_;refine bT (σ:=Nat×Value) (fun q=>[(0,.pointer (some ⟨nb,0,none⟩)),(5,.pointer (some ⟨h1.size,0,none⟩)),(6,.map (some h2.size)),(7,q.2),(8,.int .i64 (i:Nat)),(9,.pointer (some ⟨g.size,0,none⟩)),(33,.int .i64 (q.1:Nat))]) (fun q h'=>∃C lists' row,iK h h' C h1.size h2.size q.2 vn vr lists' next rule/\(q.1<=256/\row.length=q.1/\lists'.length<=2000+q.1)/\br h' g.size 164 (row.map (Value.int .i64)++List.replicate (256-q.1) (Value.int .i64 0))/\lists'[i]? =some cur/\(∀l∈lists',l.Sublist (List.range ss.length))/\kQ ss cur (256-q.1) q.1 lists' row=tgt) (fun q=>256-q.1) ((0,.slice la lists.length lc)) rfl ⟨rfl,rfl,rfl,rfl,rfl,rfl,rfl,trivial⟩ ⟨C,lists,[],Gj,⟨Nat.zero_le _,rfl,by simp;omega⟩,kz,hcur,hsl,hrow⟩ ?_;rintro⟨b,vl⟩ g2 ⟨C,lists,row,mk,⟨hb,hrlen,hlb⟩,kz,hcur,hsl,hrow⟩ ih2
     try dsimp only
     dsimp only at mk hb hrlen hlb kz hrow;have hng:cu g2 O nb v ss st:=hn.ax mk.ext (fun _ _ k=>k);refine aY func103 1 [0,5,6,7,8,9,33,34] rfl ?_;refine au rfl ?_;refine aG rfl rfl (fun hb256=>?_) (fun hb256=>?_)
     · obtain⟨m,hm⟩:∃m,256-b=m+1:=⟨255-b,by omega⟩
       rw[hm,kQ] at hrow;obtain⟨g',c',cs,hv',_,_,hrowv,_,⟨w,rfl,hw⟩,_⟩:=mk.ls.put hcur;subst hv';have hnlt:∀j∈cur,j<ss.length:=fun j hj=>List.mem_range.1 (hcsub.subset hj)
       have hcl:=hcsub.length_le;rw[List.length_range] at hcl;have hub:(UInt8.ofNat b).toNat=b:=by simp;omega
       have hwr:cn gI g2 (fun _=>False) w cur:=cn.less hw (fun _ k=>k.elim);have hstep:=AM (UInt8.ofNat b) hng hgood (by omega) hwr hnlt (by omega) (hpot _ _ hcsub);rw[hub] at hstep;have hlsub:=CR ss (UInt8.ofNat b) cur;refine aA rfl ?_;refine au rfl ?_;refine G.block rfl rfl ?_;refine aY func103 2 [0,5,6,7,8,9,10,33,34] rfl ?_;refine bB func103 3 rfl ?_;refine xp rfl (ak.aF underlying163 H.fS rfl rfl i rfl rfl (by have:=(List.getElem?_eq_some_iff.1 hcur).1;omega)) ?_;refine xp rfl (af H.lB rfl (hrowv 0 _ rfl)) ?_;refine cx 1 rfl rfl (ak.uw underlying3 underlying5 rfl (wrap_u8 ⟨by omega,by omega⟩)) ?_;refine xo rfl (aj (vs:=[_,_,_]) func119 rfl H.JG rfl (ah.aX (hstep))) ?_;rintro w11 g3 ⟨ho3,e3⟩;generalize hl:cS ss (UInt8.ofNat b) cur=l at *;have hsN:dI ss cur lists b=if l.length=0 then (lists,-1) else match nS 0 lists l with|some i=>(lists,(i:Int))|none=>(lists++[l],(lists.length:Int)):=by unfold dI;rw[hl]<;>rfl
       have hil:=hint l hlsub;obtain⟨l11a,l11c,rfl,_⟩:=(show aM g3 g2.size 3 1 w11 l.length (l.map cZ) from ho3).open;have mk3:=mk.ax e3;have kz3:=kz.ax e3;have hkey:∀{gg:ay},aD g3 gg->ah Tryz.prog 118 #[.slice l11a l.length l11c] gg (bX fun r h'=>r= .string (bs (xL l))/\aD gg h'):=fun e=>qC (htens.ax (mk3.ext.trans e)) (Av (cn.mv (cN.read (O:=fun _=>False) (h1:=fun _=>rfl) ho3 (fun _ _ k=>k)) (Mv.ax e))) hil.1 hil.2
       refine aS 1 [0,5,6,7,8,9,10,11,33,34] rfl ?_;refine bB func103 2 rfl ?_;refine xo rfl (aj (vs:=[_]) func118 rfl H.Cg rfl (ah.aX (hkey (Ext.refl _ _)))) ?_;rintro _ g4 ⟨rfl,e4⟩;have mk4:=mk3.ax e4;have kz4:=kz3.ax e4;refine xp rfl (ak.tq (z:=.int .i64 0) js.str underlying162 underlying9 (by kernel_rfl) rfl rfl rfl mk4.mp) ?_;rw[uH];refine aS 5 [0,5,6,7,8,9,10,11,12,13,33,34] rfl ?_;refine au rfl ?_;refine G.block rfl rfl ?_;refine bB func103 1 rfl ?_;refine xp rfl (ak.aN underlying44 rfl) ?_;refine aS 2 [0,5,6,7,8,9,10,11,12,13,33,34,51] rfl ?_
       have fin:∀(to:Int) (vl2:Value) (h':ay) (ρ':Env),Sub [(0,.pointer (some ⟨nb,0,none⟩)),(5,.pointer (some ⟨h1.size,0,none⟩)),(6,.map (some h2.size)),(7,vl2),(8,.int .i64 (i:Nat)),(9,.pointer (some ⟨g.size,0,none⟩)),(10,.int .i64 (b:Nat)),(12,.int .i64 to),(33,.int .i64 (b:Nat))] ρ'->(∃C2,iK h h' C2 h1.size h2.size vl2 vn vr (dI ss cur lists b).1 next rule)->to=(dI ss cur lists b).2->br h' g.size 164 (row.map (Value.int .i64)++List.replicate (256-b) (Value.int .i64 0))->G Tryz.prog 103 f103 [.code [1,1,1,1,0,0,1,1,0,0,1,0,1,0,0,1,0,0,1,0,1,1,1,1,1,1],.blk 3,.code [1,1,1,0,0,1,0,1,0,0,1,0,0,1,0,1,1,1,1,1,1],.loop [0,0,1,0,1,0,0,1,0,0,1,0,1,1,1,1,1,1],.blk 2,.code [1,1,0,0,1,0,0,1,0,1,1,1,1,1,1],.blk 1,.code [1,1,0,0,1,0,1,1,1,1,1,1],.loop [0,0,1,0,1,1,1,1,1,1],.blk 0,.code [1,1,1,1,1,1,1]] ρ' h' (bX fun r h'=>yo res h' r/\aD h h'):=by
        rintro to vl2 g5 ρ' hsub ⟨C2,mk5⟩ hto kz5;refine G.sub (ρ':=[(0,.pointer (some ⟨nb,0,none⟩)),(5,.pointer (some ⟨h1.size,0,none⟩)),(6,.map (some h2.size)),(7,vl2),(8,.int .i64 (i:Nat)),(9,.pointer (some ⟨g.size,0,none⟩)),(10,.int .i64 (b:Nat)),(12,.int .i64 to),(33,.int .i64 (b:Nat))]) hsub ?_
        have hrs:(dI ss cur lists b).1.length<=lists.length+1/\(dI ss cur lists b).1[i]? =some cur/\∀x∈(dI ss cur lists b).1,x.Sublist (List.range ss.length):=by
         rw[hsN];split
         · exact⟨Nat.le_succ _,hcur,hsl⟩
         · split
           · exact⟨Nat.le_succ _,hcur,hsl⟩
           · refine⟨by simp,by rw[List.getElem?_append_left (List.getElem?_eq_some_iff.1 hcur).1];exact hcur,fun x hx=>?_⟩
             rcases List.mem_append.1 hx with k|k
             · exact hsl x k
             · have:x=l:=by simpa using k
               rw[this];exact hlsub
        have hcells:(row.map (Value.int .i64)++List.replicate (256-b) (Value.int .i64 0)).length=256:=by simp[hrlen];omega
        have hset:(row.map (Value.int .i64)++List.replicate (256-b) (Value.int .i64 0)).set (0+b*1) (.int .i64 to)=(row++[to]).map (Value.int .i64)++List.replicate (256-(b+1)) (Value.int .i64 0):=by
         rw[Nat.zero_add,Nat.mul_one,List.set_append_right _ _ (by simp;omega),show 256-b=(256-(b+1))+1 by omega,List.replicate_succ];have:b-(row.map (Value.int .i64)).length=0:=by simp;omega
         rw[this,List.set_cons_zero];simp
        have hblt:0+b*1<(row.map (Value.int .i64)++List.replicate (256-b) (Value.int .i64 0)).length:=by rw[hcells];omega
        refine G.bV func103 rfl ?_;refine cx 2 rfl rfl (ak.dW underlying164 H.aQ rfl rfl b rfl (by omega)) ?_;refine RW.bh rfl rfl rfl (cj H.aQ rfl rfl rfl (kz5.cell (List.getElem?_eq_getElem hblt)) kz5.nf) ?_;rintro _ g6 ⟨rfl,hg6⟩;have k6:=kz5.set (0+b*1) (.int .i64 to);rw[<-hg6,hset] at k6;have x6:Ext (fun y=>y=g.size) g5 g6:=by rw[hg6];exact Ext.dS _ _ _ rfl
        have hzge:h.size<=g.size:=mkg.ext.size;have mk6:=mk5.put x6 kz5.ty hvz hzge;refine xd [0,5,6,7,8,9,10,12,33] rfl ?_;refine G.aT ?_;refine G.bV func103 rfl ?_;refine xp rfl (ak.bL rfl rfl ⟨by omega,by omega⟩) ?_;refine aS 1 [0,5,6,7,8,9,10,12,33] rfl ?_;exact ih2 (b+1,vl2) _ _ ⟨rfl,rfl,rfl,rfl,rfl,rfl,rfl,trivial⟩ ⟨C2,_,row++[to],mk6,⟨by show b+1<=256;omega,by simp[hrlen],by show _<=2000+(b+1);omega⟩,k6,hrs.2.1,hrs.2.2,by show kQ ss cur (256-(b+1)) (b+1) _ _=tgt;rw[show 256-(b+1)=m by omega,hto];exact hrow⟩ (by show 256-(b+1)<256-b;omega)
       refine aG rfl rfl (fun hz11=>?_) (fun hz11=>?_)
       · have hl0':l.length=0:=by omega
         refine G.bV func103 rfl ?_;refine aS 1 [0,5,6,7,8,9,10,11,12,13,33,34,51] rfl ?_;refine G.aT ?_;exact fin (-1) _ _ _ ⟨rfl,rfl,rfl,rfl,rfl,rfl,rfl,rfl,rfl,trivial⟩ (by rw[hsN,if_pos hl0'];exact⟨C,mk4⟩) (by rw[hsN,if_pos hl0']) kz4
       · have hl0':¬l.length=0:=by omega
         rcases hfind:nS 0 lists l with _|j
         · refine aY func103 3 [0,5,6,7,8,9,10,11,12,13,33,34,51,55] rfl ?_;refine aO rfl rfl (fun _=>?_) (fun hc=>absurd hc (by simp));refine bB func103 1 rfl ?_;refine xp rfl (ak.aN underlying163 rfl) ?_;refine aS 1 [0,5,6,7,8,9,10,11,12,13,33,34,51,55] rfl ?_;refine bB func103 2 rfl ?_;refine xo rfl (aj (vs:=[_]) func118 rfl H.Cg rfl (ah.aX (hkey e4))) ?_;rintro _ g5 ⟨rfl,e5⟩;have mk5:=mk4.ax e5;have hnone:kI (bs (xL l)) (lZ 0 lists)=none:=by rw[uH,hfind];rfl
           refine aV 1 rfl ?_;refine RW.bh rfl rfl rfl (av.mapUpdate (v:=(lists.length:Int)) js.str underlying162 underlying9 rfl rfl rfl rfl rfl mk5.mp hnone) ?_;rintro _ g6 ⟨rfl,hm6,x6,z6⟩;have hm6:fy Value.string (Value.int .i64) g6 h2.size (lZ 0 (lists++[l])):=by rw[vM,Nat.zero_add];exact hm6
           have mapne:∀{b:Nat}{t:TypeId},dy g5 b t->¬b=h2.size:=fun k e=>mk5.mp.ne k e.symm
           have e35:=e4.trans e5;have ho5w:cN cZ g5 g2.size 3 (.slice l11a l.length l11c) l:=cN.ax ho3 e35;have kz5:=kz4.ax e5;have kz6:=kz5.ext x6 (mapne kz5.ty);have d6:=mk5.dblk.ext x6 (mapne mk5.dblk.ty);have nx6:=aM.ext x6 mk5.nx (fun b hb=>mapne (mk5.Dg b hb));have ru6:=aM.ext x6 mk5.ru (fun b hb=>mapne (mk5.B8 b hb));have ho6w:cN cZ g6 g2.size 3 (.slice l11a l.length l11c) l:=aM.ext x6 ho5w (fun b hb=>mapne (aM.ty ho5w hb))
           have ls6:gO BA (fun b=>¬(C b\/dn (Value.slice l11a l.length l11c).ownBlock b)) g6 h.size 44 (.slice (some ⟨g',0,none⟩) lists.length c') lists :=
            mk5.ls.D8 x6 (fun b hb=>mapne (mk5.EW b hb)) (fun b _ hb hC=>mapne (mk5.cty b hC) hb) (fun b _ hb hC=>hb (.inl hC))
           have lty6:dy g6 g' 44:=(mk5.EW g' rfl).ext x6 (mapne (mk5.EW g' rfl));obtain⟨css,hc1,hc2,hc3⟩:=id ls6;have hz5:=mk5.ext.size;have hz2g:=mk.ext.size;refine xd [0,5,6,7,8,9,10,11,12,13,33,34,51,55] rfl ?_;refine G.bV func103 rfl ?_;refine aV 2 rfl ?_;refine xo rfl (av.bC (us:=[_]) underlying163 H.Ir rfl rfl (by decide) (by simp[Value.oneCell'])) ?_;rintro _ _ ⟨rfl,rfl⟩;refine xo rfl (av.cH underlying163 H.Ir rfl rfl (hc2) rfl rfl (by first|decide|simp[Value.oneCell']) (by omega) (by decide) (by omega)) ?_;rintro v7 g7 ⟨ho7,hx7,hx7',hv7⟩
           have lne:∀{b:Nat}{t:TypeId},dy g6 b t->44≠t->¬dn (Value.slice (some ⟨g',0,none⟩) lists.length c').ownBlock b:=fun k ht e=>by
            simp only[dn,Value.ownBlock,Option.some.injEq] at e;subst e;exact lty6.ne k ht rfl
           have hsz3:=e3.size;have hsz35:=e35.size;have ty6:∀{b:Nat}{t:TypeId},dy g5 b t->dy g6 b t:=fun k=>k.ext x6 (mapne k)
           have hls7:gO BA (fun b=>¬(C b\/dn (Value.slice l11a l.length l11c).ownBlock b)) g7 h.size 44 v7 (lists++[l]) :=
            gO.om (h:=g6) (v:=.slice (some ⟨g',0,none⟩) lists.length c') (css:=css) (cs:=[.slice l11a l.length l11c]) hc1 hc3 ho7 hx7 hv7 ⟨_,rfl,aM.G8 (h1:=fun _=>rfl) ho6w (fun b hb k=>by
             rcases k with k|k
             · exact lne (aM.ty ho6w hb) (by decide) k
             · exact k (.inr hb.symm))⟩
           have hmb6:¬dn (Value.slice (some ⟨g',0,none⟩) lists.length c').ownBlock h2.size:=fun e=>by
            simp only[dn,Value.ownBlock,Option.some.injEq] at e;exact hm6.ne (e▸lty6) rfl
           have hext7:aD h g7:=⟨by have:=hx7.size;omega,fun b hb k=>by
            rw[hx7.block b (by omega) (fun e=>by
             simp only[dn,Value.ownBlock,Option.some.injEq] at e;have:=mk5.Lp g' rfl;omega),x6.block b (by omega) (by have:=mk5.mge;omega)]
            exact mk5.ext.block b hb k⟩
           have mk7:iK h g7 (fun b=>C b\/dn (Value.slice l11a l.length l11c).ownBlock b) h1.size h2.size v7 vn vr (lists++[l]) next rule :=
            ⟨hext7,d6.ext hx7 (lne d6.ty (by decide)),aM.ext hx7 nx6 (fun b hb=>lne (aM.ty nx6 hb) (by decide)),aM.ext hx7 ru6 (fun b hb=>lne (aM.ty ru6 hb) (by decide)),hm6.ext hx7 hmb6,hls7,
             fun b hb=>by
              rcases hb with hb|hb
              · exact dy.ext (ty6 (mk5.cty b hb)) hx7 (lne (ty6 (mk5.cty b hb)) (by decide))
              · exact dy.ext (aM.ty ho6w hb.symm) hx7 (lne (aM.ty ho6w hb.symm) (by decide)),
             fun b hb hC=>by
              rcases hC with hC|hC
              · exact mk5.cr b hb hC
              · have h1':=(mk.B8 b hb).lt;have h2':=(aM.lt ho6w hC.symm).1;omega,mk5.dge,mk5.mge⟩
           obtain⟨v7a,v7c,rfl,_⟩:=ho7.open;refine aS 1 [0,5,6,7,8,9,10,11,12,13,33,34,51,55] rfl ?_;refine G.aT ?_;exact fin (lists.length:Int) _ _ _ ⟨rfl,rfl,rfl,rfl,rfl,rfl,rfl,rfl,rfl,trivial⟩ (by rw[hsN,if_neg hl0',hfind];exact⟨_,mk7⟩) (by rw[hsN,if_neg hl0',hfind]) (kz6.ext hx7 (lne kz6.ty (by decide)))
         · have hj:=oE lists 0 j l hfind;refine aY func103 3 [0,5,6,7,8,9,10,11,12,13,33,34,51,55] rfl ?_;refine aO rfl rfl (fun hc=>absurd hc (by simp)) (fun _=>?_);refine aA rfl ?_;refine G.aT ?_;exact fin (j:Int) _ _ _ ⟨rfl,rfl,rfl,rfl,rfl,rfl,rfl,rfl,rfl,trivial⟩ (by rw[hsN,if_neg hl0',hfind];exact⟨C,mk4⟩) (by rw[hsN,if_neg hl0',hfind]) kz4
     · obtain rfl:b=256:=by omega
       rw[Nat.sub_self,kQ] at hrow;subst hrow;simp only at hcon;obtain⟨css2,hd1,hd2,hd3⟩:=id mk.ls;obtain⟨la2,lc2,rfl,_⟩:=hd2.open;have hencr:b8 (jB row)=row.map (Value.int .i64):=by rw[b8,su hrlen]
       rw[Nat.sub_self,List.replicate_zero,List.append_nil,<-hencr] at kz;refine bN rfl rfl ?_;refine au rfl ?_;refine bB func103 1 rfl ?_;refine xp rfl (ak.aN underlying163 rfl) ?_;refine aS 1 [0,5,6,7,8,9,33,34,74] rfl ?_;refine aG rfl rfl (fun hbigl=>?_) (fun hbigl=>?_)
       · rw[if_pos (by omega)] at hcon;refine aY func103 2 [0,2,3,5,6,7,8,9,33,34,74] rfl ?_;refine aK func103 rfl rfl ?_;exact⟨_,rfl,by rw[hcon];rfl,mk.ext⟩
       · rw[if_neg (by omega)] at hcon
         have nne:∀{b:Nat}{t:TypeId},dy g2 b t->164≠t->¬(dn vn.ownBlock b\/Array.size g2<=b):=fun kt ht e=>by
          rcases e with e|e
          · exact(mk.Dg _ e.symm).ne kt ht rfl
          · have:=kt.lt;omega
         have hzM:¬(dn vn.ownBlock g.size\/Array.size g2<=g.size):=by
          rintro(e|e)
          · exact hvz e.symm
          · have:=kz.lt;omega
         have hdM:=nne mk.dblk.ty (by decide);have hnx:aM g2 h.size 164 256 vn next.length (next.flatMap b8):=mk.nx
         have hone:∀u∈b8 (jB row),u.oneCell'=true:=fun u hu=>by simp[b8] at hu;obtain⟨_,_,rfl⟩:=hu;rfl
         have hg2:=mk.ext.size;refine aA rfl ?_;refine au rfl ?_;refine bU (fun b=>dn vn.ownBlock b\/Array.size g2<=b) (fun i=>Nat.blt i 10) (sz:=11) (listed:= #[false,false,false,false,false,false,false,false,false,false,false]) func103 H.mixed rfl rfl rfl ?_;refine bF 0 1 (by kernel_rfl) rfl ?_;refine bF 1 3 (by kernel_rfl) rfl ?_;refine bF 2 7 (by kernel_rfl) rfl ?_;refine bf 3 15 (by kernel_rfl) rfl (fun h' e=>aa (off:=0) underlying160 rfl rfl H.jV rfl) ?_;refine bf 4 31 (by kernel_rfl) rfl (fun h' e=>af H.qi rfl (e.cell hdM (mk.dblk.cell (i:=0) rfl))) ?_;refine bf 5 63 (by kernel_rfl) rfl (fun h' e=>ak.aq H.uI H.jU rfl (e.rowAt hzM kz.row) (by first|rfl|(simp;done)|(simp;omega))) ?_;refine dK 6 127 (by kernel_rfl) rfl (av.gD (cs:=b8 (jB row)) underlying158 H.Cr rfl (lp _) (by decide)) ?_;rintro _ _ ⟨rfl,rfl⟩;refine⟨fun _=>(Ext.push _ _ _),?_⟩;refine dK 7 255 (by kernel_rfl) rfl (av.wJ underlying158 H.Cr rfl rfl hnx rfl (by simp) hone (by simp only[maxLen];omega) (by omega) hg2) ?_;rintro v3 g3 ⟨ho3,hx3,hx3',hv3⟩;refine⟨fun _=>hx3'.mono (fun _ _ k=>.inl k),?_⟩;obtain⟨a3,c3,rfl,_⟩:=ho3.open;refine dK 8 511 (by kernel_rfl) rfl (ak.aX (cB rfl)) ?_;rintro _ hq_ ⟨rfl,hqe_⟩;replace hqe_:=hqe_.symm;subst hqe_;refine⟨fun _=>Ext.refl _ _,?_⟩;refine bf 9 1023 (by kernel_rfl) rfl (fun h' e=>aa (off:=0) underlying160 rfl rfl H.jV rfl) ?_;refine iF 10 2047 (by kernel_rfl) rfl (av.aE H.jV rfl rfl (mk.dblk.ext hx3 (fun e=>hdM (.inl e))) (by first|decide|exact of_decide_eq_true rfl|(simp;done)|(simp;omega)) rfl) ?_;rintro _ g4 ⟨rfl,k4,x4,z4⟩;refine⟨fun hk=>(nomatch hk),?_⟩;have mk4:=mk.HT (r:=jB row) rfl ho3 hx3 k4 x4;obtain⟨g',c',cs,hv',_,_,hrowv,_,⟨w,rfl,hw⟩,_⟩:=mk4.ls.put hcur;cases hv';have hng4:cu g4 O nb v ss st:=hn.ax mk4.ext (fun _ _ k=>k);have hwr:cn gI g4 (fun _=>False) w cur:=cn.less hw (fun _ k=>k.elim);have hnlt:∀j∈cur,j<ss.length:=fun j hj=>List.mem_range.1 (hcsub.subset hj)
         have hcl:=hcsub.length_le;rw[List.length_range] at hcl
         have rne:∀{b:Nat}{t:TypeId},dy g4 b t->3≠t->¬(dn vr.ownBlock b\/Array.size g4<=b):=fun kt ht e=>by
          rcases e with e|e
          · exact(mk4.B8 _ e.symm).ne kt ht rfl
          · have:=kt.lt;omega
         have hdM4:=rne mk4.dblk.ty (by decide);have hlM4:=rne (mk4.EW g' rfl) (by decide);have hru:aM g4 h.size 3 1 vr rule.length (rule.map (Value.int .i64)):=mk4.ru;have hg4s:=mk4.ext.size;have hli:i<lists.length:=(List.getElem?_eq_some_iff.1 hcur).1;refine aR (by kernel_rfl) ?_;refine xu [0,5,6,7,8,9,33,34,74] rfl ?_;refine bU (fun b=>dn vr.ownBlock b\/Array.size g4<=b) (fun i=>Nat.blt i 15) (sz:=16) (listed:= #[false,false,false,false,false,false,false,false,false,false,false,false,false,false,false,false]) func103 H.mixed rfl rfl rfl ?_;refine bF 0 1 (by kernel_rfl) rfl ?_;refine bF 1 3 (by kernel_rfl) rfl ?_;refine bF 2 7 (by kernel_rfl) rfl ?_;refine bf 3 15 (by kernel_rfl) rfl (fun h' e=>aa (off:=1) underlying160 rfl rfl H.fS rfl) ?_;refine bf 4 31 (by kernel_rfl) rfl (fun h' e=>af H.lB rfl (e.cell hdM4 (mk4.dblk.cell (i:=1) rfl))) ?_;refine bF 5 63 (by kernel_rfl) rfl ?_;refine bF 6 127 (by kernel_rfl) rfl ?_;refine bF 7 255 (by kernel_rfl) rfl ?_;refine bf 8 511 (by kernel_rfl) rfl (fun h' e=>ak.aF underlying163 H.fS rfl rfl i rfl rfl (by omega)) ?_;refine bf 9 1023 (by kernel_rfl) rfl (fun h' e=>af H.lB rfl (e.cell hlM4 (hrowv 0 _ rfl))) ?_;refine dK 10 2047 (by kernel_rfl) rfl (aj (vs:=[_,_]) func120 rfl H.JF rfl (ah.aX (vv hng4 (by omega) hwr hnlt (by omega)))) ?_;rintro _ g5 ⟨rfl,hg5⟩;refine⟨fun _=>by subst hg5;exact Ext.refl _ _,?_⟩;subst hg5;refine dK 11 4095 (by kernel_rfl) rfl (av.bC (us:=[_]) underlying44 H.nH rfl rfl (by decide) (by simp[Value.oneCell'])) ?_;rintro _ _ ⟨rfl,rfl⟩;refine⟨fun _=>by first|exact Ext.push _ _ _|assumption,?_⟩;refine dK 12 8191 (by kernel_rfl) rfl (av.cH underlying44 H.nH rfl rfl (hru) rfl rfl (by first|decide|simp[Value.oneCell']) (by omega) (by decide) (by omega)) ?_;rintro v6 g6 ⟨ho6,hx6,hx6',hv6⟩;refine⟨fun _=>hx6'.mono (fun _ _ k=>.inl k),?_⟩;obtain⟨a6,c6,rfl,_⟩:=ho6.open;refine dK 13 16383 (by kernel_rfl) rfl (ak.aX (cB rfl)) ?_;rintro _ hq_ ⟨rfl,hqe_⟩;replace hqe_:=hqe_.symm;subst hqe_;refine⟨fun _=>Ext.refl _ _,?_⟩;refine bf 14 32767 (by kernel_rfl) rfl (fun h' e=>aa (off:=1) underlying160 rfl rfl H.fS rfl) ?_;refine iF 15 65535 (by kernel_rfl) rfl (av.aE H.fS rfl rfl (mk4.dblk.ext hx6 (fun e=>hdM4 (.inl e))) (by first|decide|exact of_decide_eq_true rfl|(simp;done)|(simp;omega)) rfl) ?_;rintro _ g7 ⟨rfl,k7,x7,z7⟩;refine⟨fun hk=>(nomatch hk),?_⟩;have mk7:=mk4.HS (x:=bJ ss cur) rfl ho6 hx6 hv6 k7 x7;refine aR (by kernel_rfl) ?_;refine xu [0,5,6,7,8,9,33,34,74] rfl ?_;refine G.aT ?_;refine G.bV func103 rfl ?_;refine cx 1 rfl rfl (ak.bL rfl rfl ⟨by omega,by omega⟩) ?_;refine aS 1 [0,5,6,7,8,9,33,34,74] rfl ?_;exact ih (i+1,_) _ _ ⟨rfl,rfl,rfl,rfl,rfl,trivial⟩ ⟨C,_,_,lists,next++[jB row],rule++[bJ ss cur],mk7,by show i+1<=lists.length;omega,by omega,⟨by simp[hnl],by simp[hrl]⟩,hsl,by rw[hcon,show 2002-(i+1)=n by omega]⟩ (by show 2002-(i+1)<2002-i;omega)
   · have hie:i=lists.length:=by omega
     have hnone:lists[i]? =none:=List.getElem?_eq_none (by omega);obtain⟨n,hnn⟩:∃n,2002-i=n+1:=⟨2001-i,by omega⟩
     rw[hnn,jP,hnone] at hcon;simp only at hcon;refine bN rfl rfl ?_;refine aY func103 3 [0,2,3,5,6,7,8,30] rfl ?_;refine aK func103 rfl rfl ?_;refine⟨_,rfl,?_,mk.ext⟩;rw[hcon];exact⟨h1.size,rfl,vn,vr,mk.dblk,rW.read mk.nx (fun _ _ k=>k),cN.read (h1:=fun _=>rfl) mk.ru (fun _ _ k=>k)⟩
theorem ze (r:Row):over (List.replicate 256 (Value.int .i64 0)) 0 (b8 r)=b8 r:=by
 unfold over;rw[List.take_zero,List.nil_append,lp,List.drop_of_length_le (by simp),List.append_nil]
theorem Bf (k:nX h db d) (hok:d.Ok) :
 ah Tryz.prog 122 #[.pointer (some ⟨db,0,none⟩)] h (bX fun r h'=>cN Value.bool h' h.size 4 r (bO d)/\aD h h'):=by
 obtain⟨vn,vr,hk,⟨na,nn,nc,rfl,hnl,hnc,hnm,hgetn⟩,⟨ra,rn,rc,rfl,hrl,hrc,hrm,hgetr⟩⟩:=k;have hlen:=hok.len;have hsize:=hok.size;have hslN:cn Cs h (fun _=>False) (.slice na nn nc) d.next:=⟨_,_,_,rfl,hnl,hnc,hnm,hgetn⟩
 have hslR:cn (.int .i64) h (fun _=>False) (.slice ra rn rc) d.rule:=⟨_,_,_,rfl,hrl,hrc,hrm,hgetr⟩
 subst hnl;generalize htgt:bO d=tgt;refine ah.of func122 rfl rfl ?_;refine aY func122 1 [0,2] rfl ?_;refine bB func122 2 rfl ?_;refine xp rfl (aa (off:=0) underlying160 rfl rfl H.jV rfl) ?_;refine xp rfl (af H.qi rfl (hk.cell (i:=0) rfl)) ?_;refine xp rfl (ak.aN underlying158 rfl) ?_;refine xo rfl (av.mu underlying25 H.JY H.Lb rfl rfl rfl (by omega) (by decide)) ?_;rintro _ h1 ⟨rfl,k1,e1⟩;have k1:cN Value.bool h1 h.size 4 (.slice (some ⟨h.size,0,none⟩) d.next.length d.next.length) (List.replicate d.next.length false):=by unfold cN;simpa using k1
 have hf0:gb (List.replicate d.next.length false)<=d.next.length:=by unfold gb;exact Nat.le_trans (List.length_filter_le _ _) (by simp)
 refine aS 1 [0,2,3] rfl ?_;refine au rfl ?_;refine aY func122 1 [0,2,3,4] rfl ?_;refine G.block rfl rfl ?_;refine bT (σ:=Nat×Bool×List Bool) (fun q=>[(0,.pointer (some ⟨db,0,none⟩)),(3,.slice (some ⟨h.size,0,none⟩) d.next.length d.next.length),(4,.bool q.2.1)]) (fun q h'=>aD h h'/\cN Value.bool h' h.size 4 (.slice (some ⟨h.size,0,none⟩) d.next.length d.next.length) q.2.2/\q.2.2.length=d.next.length/\(q.2.1=true->gb q.2.2<q.1/\pP d q.1 q.2.2=tgt)/\(q.2.1=false->q.2.2=tgt)) (fun q=>q.1+(if q.2.1 then 1 else 0)) ((d.next.length+1,true,List.replicate d.next.length false)) rfl ⟨rfl,rfl,rfl,trivial⟩ ⟨e1,k1,by simp,fun _=>⟨Nat.lt_succ_of_le hf0,htgt⟩,fun k=>(by cases k)⟩ ?_;rintro⟨n,ag,out⟩ g ⟨eg,ho,hol,hT,hF⟩ ih
 try dsimp only
 dsimp only at ho hol hT hF;refine au rfl ?_;refine aY func122 1 [0,3,4,15] rfl ?_;refine aO rfl rfl (fun hag=>?_) (fun hag=>?_)
 · subst hag;obtain⟨hfn,hcon⟩:=hT rfl;obtain⟨n,rfl⟩:∃m,n=m+1:=⟨n-1,by omega⟩
   rw[pP] at hcon;have hless:=ie d d.next.length 0 out false (by omega)
   generalize hps:cA d d.next.length 0 out false=ps at hcon hless
   refine aA rfl ?_;refine G.block rfl rfl ?_;refine aY func122 1 [0,3,4,15] rfl ?_;refine bB func122 2 rfl ?_;refine xp rfl (aa (off:=0) underlying160 rfl rfl H.jV rfl) ?_;refine xp rfl (af H.qi rfl ((hk.ax eg).cell (i:=0) rfl)) ?_;refine xp rfl (ak.aN underlying158 rfl) ?_;refine aS 1 [0,3,4,15,19,20,21] rfl ?_;refine G.block rfl rfl ?_;refine bT (σ:=Nat×Bool×List Bool) (fun q=>[(0,.pointer (some ⟨db,0,none⟩)),(3,.slice (some ⟨h.size,0,none⟩) d.next.length d.next.length),(4,.bool q.2.1),(19,.slice na d.next.length nc),(20,.int .i64 (d.next.length:Nat)),(21,.int .i64 (q.1:Nat))]) (fun q h'=>aD h h'/\cN Value.bool h' h.size 4 (.slice (some ⟨h.size,0,none⟩) d.next.length d.next.length) q.2.2/\q.2.2.length=d.next.length/\q.1<=d.next.length/\cA d (d.next.length-q.1) q.1 q.2.2 q.2.1=ps) (fun q=>d.next.length-q.1) ((0,false,out)) rfl ⟨rfl,rfl,rfl,rfl,rfl,rfl,trivial⟩ ⟨eg,ho,hol,Nat.zero_le _,hps⟩ ?_;rintro⟨k,ag,out⟩ g2 ⟨eg2,ho,hol,hkl,hcon2⟩ ih2
   try dsimp only
   dsimp only at ho hol hkl hcon2;refine aY func122 1 [0,3,4,19,20,21,22] rfl ?_;refine au rfl ?_;refine aG rfl rfl (fun hlt=>?_) (fun hlt=>?_)
   · have hkN:k<d.next.length:=by omega
     obtain⟨m,hm⟩:∃m,d.next.length-k=m+1:=⟨d.next.length-k-1,by omega⟩
     rw[hm,cA] at hcon2;obtain⟨r,hr⟩:∃r,d.next[k]? =some r:=⟨_,List.getElem?_eq_getElem hkN⟩
     obtain⟨oa',n',c',hv',_,_,_,hgetn⟩:=id (hslN.mv (Mv.ax eg2));cases hv';obtain⟨b1,o1,cs1,ha1,_,hrow1,rfl⟩:=hgetn k r hr;have hone:∀u∈b8 r,u.oneCell'=true:=fun u hu=>by simp[b8] at hu;obtain⟨_,_,rfl⟩:=hu;rfl
     obtain⟨bx,hbx⟩:∃bx,out[k]? =some bx:=⟨_,List.getElem?_eq_getElem (by omega)⟩
     have hgd:out.getD k false=bx:=by rw[List.getD_eq_getElem?_getD,hbx];rfl
     rw[hgd] at hcon2;refine aA rfl ?_;refine au rfl ?_;refine G.block rfl rfl ?_;refine bB func122 1 rfl ?_;refine xp rfl (ak.aF underlying158 H.jU rfl rfl k rfl ha1 (by omega)) ?_;refine xp rfl (ak.aq H.uI H.jU rfl hrow1 (by first|rfl|(simp;done)|(simp;omega))) ?_;refine xo rfl (av.aW H.BX) ?_;rintro _ g3 ⟨rfl,k6,e3,z3⟩;have k6:br g3 g2.size 164 (List.replicate 256 (Value.int .i64 0)):=k6;refine aV 1 rfl ?_;refine RW.bh rfl rfl rfl (av.an H.jU rfl rfl k6 (by first|rfl|(simp;done)|(simp;omega)) (by first|decide|exact of_decide_eq_true rfl|(simp;done)|(simp;omega)) (hone)) ?_;rintro _ g4 ⟨rfl,k7,x7,z7⟩;have k7:br g4 g2.size 164 (b8 r):=by rw[<-ze r];exact k7
     have e4:aD g2 g4:=aD.only e3 x7 (Nat.le_refl _);have eg4:=eg2.trans e4;have ho4:=cN.ax ho e4;obtain⟨gg,c4,hv4,hgb,hglt,hcell,hfz,hset⟩:=ho4.at hbx;rw[hol] at hv4;cases hv4;refine xd [0,3,4,5,6,19,20,21,22] rfl ?_;refine au rfl ?_;refine bB func122 2 rfl ?_;refine xp rfl (ak.aF underlying25 H.vF rfl rfl k rfl rfl (by omega)) ?_;refine xp rfl (af H.F1 rfl hcell) ?_;refine xd [0,3,4,5,6,19,20,21,22,29] rfl ?_;refine aO rfl rfl (fun hb=>?_) (fun hb=>?_)
     · subst hb;rw[if_pos rfl] at hcon2;refine bN rfl rfl ?_;refine G.bV func122 rfl ?_;refine xp rfl (ak.bL rfl rfl ⟨by omega,by omega⟩) ?_;refine aS 1 [0,3,4,5,6,19,20,21,22,29] rfl ?_;exact ih2 (k+1,ag,out) _ _ ⟨rfl,rfl,rfl,rfl,rfl,rfl,trivial⟩ ⟨eg4,ho4,hol,hkN,by show cA d (d.next.length-(k+1)) _ _ _=ps;rw[show d.next.length-(k+1)=m by omega];exact hcon2⟩ (by show d.next.length-(k+1)<d.next.length-k;omega)
     · subst hb;rw[if_neg (by decide)] at hcon2;obtain⟨x,hx⟩:∃x,d.rule[k]? =some x:=⟨_,List.getElem?_eq_getElem (by omega)⟩
       have hru:d.ru k=x:=by unfold cg.ru;rw[List.getD_eq_getElem?_getD,hx];rfl
       have hrow:d.row k=r.v:=by unfold cg.row;rw[hr]
       obtain⟨oa',n',c',hv',_,_,_,hgetr⟩:=id (hslR.mv (Mv.ax eg4));cases hv';obtain⟨b2,o2,cs2,ha2,_,hrow2,rfl⟩:=hgetr k x hx;refine aA rfl ?_;refine bB func122 4 rfl ?_;refine xp rfl (aa (off:=1) underlying160 rfl rfl H.fS rfl) ?_;refine xp rfl (af H.lB rfl ((hk.ax eg4).cell (i:=1) rfl)) ?_;refine cx 1 rfl rfl (ak.aF underlying44 H.aQ rfl rfl k rfl ha2 (by omega)) ?_;refine xp rfl (af H.bD rfl (hrow2 0 _ rfl)) ?_;refine cx 1 rfl rfl (ak.aF underlying25 H.vF rfl rfl k rfl rfl (by omega)) ?_;refine RW.bh rfl rfl rfl (cj H.vF rfl rfl rfl hcell hfz) ?_;rintro _ g5 ⟨rfl,hg5⟩;have hset:=hset (decide (0<=x));rw[<-hg5] at hset;have x5:Ext (fun b=>b=h.size) g4 g5:=by rw[hg5];exact Ext.dS _ _ _ rfl
       have e5:aD h g5:=aD.only eg4 x5 (Nat.le_refl _);have hz2:=eg2.size;have hlt2:h.size<g2.size:=(aM.lt ho rfl).2;have k8:=k7.ext x5 (by show ¬_=_;omega);refine xd [0,3,4,5,6,19,20,21,22,29] rfl ?_;refine au rfl ?_;refine xr func122 rfl ?_;refine xp rfl (ak.aq H.uI H.jU rfl k8.row (by first|rfl|(simp;done)|(simp;omega))) ?_;refine aS 1 [0,3,4,5,6,19,20,21,22,29,41,42] rfl ?_;refine G.block rfl rfl ?_;refine bT (σ:=Nat) (fun j=>[(0,.pointer (some ⟨db,0,none⟩)),(3,.slice (some ⟨h.size,0,none⟩) d.next.length d.next.length),(4,.bool ag),(5,.int .i64 (k:Nat)),(19,.slice na d.next.length nc),(20,.int .i64 (d.next.length:Nat)),(21,.int .i64 (k:Nat)),(41,.agg (b8 r).toArray),(42,.int .i64 (j:Nat))]) (fun j h'=>aD h h'/\cN Value.bool h' h.size 4 (.slice (some ⟨h.size,0,none⟩) d.next.length d.next.length) (out.set k (decide (0<=x) ||(r.v.take j).any (fY out)))/\j<=256) (fun j=>256-j) (0) rfl ⟨rfl,rfl,rfl,rfl,rfl,rfl,rfl,rfl,rfl,trivial⟩ ⟨e5,by simpa using hset,Nat.zero_le _⟩ ?_;rintro j g6 ⟨eg6,ho6,hj⟩ ih3;refine aY func122 1 [0,3,4,5,19,20,21,41,42,43] rfl ?_;refine au rfl ?_;refine aG rfl rfl (fun hlt3=>?_) (fun hlt3=>?_)
       · have hj2:j<256:=by omega
         obtain⟨t,ht⟩:∃t,r.v[j]? =some t:=⟨_,List.getElem?_eq_getElem (by rw[r.len];exact hj2)⟩
         have htr:(r.v.take (j+1)).any (fY out)=((r.v.take j).any (fY out) ||fY out t):=by rw[List.take_add_one,ht,List.any_append];simp
         have htm:=hok.to r (List.mem_of_getElem? hr) t (List.mem_of_getElem? ht);generalize hc:(decide (0<=x) ||(r.v.take j).any (fY out))=cb at ho6;have hcell6:(out.set k cb)[k]? =some cb:=by rw[List.getElem?_set_self (by rw[hol];exact hkN)]
         obtain⟨gg,c6,hv6,_,_,hcc6,hfz6,hset6⟩:=ho6.at hcell6;rw[List.length_set,hol] at hv6;cases hv6
         have fin:∀y g7,y=(decide (0<=x) ||(r.v.take (j+1)).any (fY out))->g7=dS g6 ⟨h.size,0+k*1,none⟩ (.bool y)->aD h g7/\cN Value.bool g7 h.size 4 (.slice (some ⟨h.size,0,none⟩) d.next.length d.next.length) (out.set k (decide (0<=x) ||(r.v.take (j+1)).any (fY out)))/\j+1<=256:=by
          rintro y g7 rfl rfl;have k9:=hset6 (decide (0<=x) ||(r.v.take (j+1)).any (fY out));rw[List.set_set] at k9;exact⟨aD.only eg6 (Ext.dS (M:=fun b=>b=h.size) g6 _ _ rfl) (Nat.le_refl _),k9,hj2⟩
         refine aA rfl ?_;refine au rfl ?_;refine G.block rfl rfl ?_;refine xr func122 rfl ?_;refine xp rfl (ak.tP underlying164 H.aQ H.bD rfl rfl j rfl hj2 (show (b8 r).toArray[j]? =some (Value.int .i64 t) by simp[b8,ht])) ?_;refine aS 1 [0,3,4,5,8,19,20,21,41,42,43] rfl ?_;refine G.bV func122 rfl ?_;refine cx 4 rfl rfl (ak.aF underlying25 H.vF rfl rfl k rfl rfl (by omega)) ?_;refine xp rfl (af H.F1 rfl hcc6) ?_;refine aV 1 rfl ?_;refine aH (d:=51) rfl (fun hg=>?_) (fun hg=>?_)
         · refine cx 9 rfl rfl (ak.aF underlying25 H.vF rfl rfl k rfl rfl (by omega)) ?_;refine RW.bh rfl rfl rfl (cj H.vF rfl rfl rfl hcc6 hfz6) ?_;rintro _ g7 ⟨rfl,hg7⟩;refine xd [0,3,4,5,8,19,20,21,41,42,43] rfl ?_;refine G.aT ?_;refine G.bV func122 rfl ?_;refine xp rfl (ak.bL rfl rfl ⟨by omega,by omega⟩) ?_;refine aS 1 [0,3,4,5,8,19,20,21,41,42,43] rfl ?_;exact ih3 (j+1) _ _ ⟨rfl,rfl,rfl,rfl,rfl,rfl,rfl,rfl,rfl,trivial⟩ (fin true g7 (by rw[htr,<-Bool.or_assoc,hc,hg];rfl) hg7) (by omega)
         · refine aV 3 rfl ?_;refine aH (d:=54) rfl (fun hg2=>?_) (fun hg2=>?_)
           · have hg2':=of_decide_eq_true hg2;obtain⟨t2,rfl⟩:=Int.eq_ofNat_of_zero_le hg2';obtain⟨bt,hbt⟩:∃bt,(out.set k cb)[t2]? =some bt:=⟨_,List.getElem?_eq_getElem (by rw[List.length_set,hol];omega)⟩
             obtain⟨gg,c6,hv6,_,_,hct,_,_⟩:=ho6.at hbt;rw[List.length_set,hol] at hv6;cases hv6
             have hlt2:fY out (t2:Nat)=bt:=by
              unfold fY;rw[decide_eq_true (show (0:Int)<=(t2:Nat) by omega),Bool.true_and,Int.toNat_natCast,List.getD_eq_getElem?_getD]
              by_cases e:k=t2
              · subst e;rw[hcell6] at hbt;cases hbt;rw[hbx,hg];rfl
              · rw[List.getElem?_set_ne e] at hbt;rw[hbt];rfl
             refine cx 2 rfl rfl (ak.aF underlying25 H.vF rfl rfl t2 rfl rfl (by omega)) ?_;refine xp rfl (af H.F1 rfl hct) ?_;refine cx 2 rfl rfl (ak.aF underlying25 H.vF rfl rfl k rfl rfl (by omega)) ?_;refine RW.bh rfl rfl rfl (cj H.vF rfl rfl rfl hcc6 hfz6) ?_;rintro _ g7 ⟨rfl,hg7⟩;refine xd [0,3,4,5,8,19,20,21,41,42,43] rfl ?_;refine G.aT ?_;refine G.bV func122 rfl ?_;refine xp rfl (ak.bL rfl rfl ⟨by omega,by omega⟩) ?_;refine aS 1 [0,3,4,5,8,19,20,21,41,42,43] rfl ?_;exact ih3 (j+1) _ _ ⟨rfl,rfl,rfl,rfl,rfl,rfl,rfl,rfl,rfl,trivial⟩ (fin bt g7 (by rw[htr,<-Bool.or_assoc,hc,hg,hlt2,Bool.false_or]) hg7) (by omega)
           · have hg2':=of_decide_eq_false hg2;refine cx 6 rfl rfl (ak.aF underlying25 H.vF rfl rfl k rfl rfl (by omega)) ?_;refine RW.bh rfl rfl rfl (cj H.vF rfl rfl rfl hcc6 hfz6) ?_;rintro _ g7 ⟨rfl,hg7⟩;refine xd [0,3,4,5,8,19,20,21,41,42,43] rfl ?_;refine G.aT ?_;refine G.bV func122 rfl ?_;refine xp rfl (ak.bL rfl rfl ⟨by omega,by omega⟩) ?_;refine aS 1 [0,3,4,5,8,19,20,21,41,42,43] rfl ?_;exact ih3 (j+1) _ _ ⟨rfl,rfl,rfl,rfl,rfl,rfl,rfl,rfl,rfl,trivial⟩ (fin false g7 (by rw[htr,<-Bool.or_assoc,hc,hg];unfold fY;rw[decide_eq_false hg2'];rfl) hg7) (by omega)
       · have hje:j=256:=by omega
         have hla:(decide (0<=x) ||(r.v.take j).any (fY out))=dH d out k:=by
          unfold dH;rw[hru,hrow,hje,List.take_of_length_le (by rw[r.len];exact Nat.le_refl _)]
         rw[hla] at ho6;have hcell6:(out.set k (dH d out k))[k]? =some (dH d out k):=by rw[List.getElem?_set_self (by rw[hol];exact hkN)]
         obtain⟨gg,c6,hv6,_,_,hcc6,hfz6,_⟩:=ho6.at hcell6;rw[List.length_set,hol] at hv6;cases hv6;refine bN rfl rfl ?_;refine G.bu [(4,.bool (ag ||dH d out k))] [(0,_),(3,_),(5,_),(19,_),(20,_),(21,_),(41,_),(42,_),(43,_)] ⟨rfl,rfl,rfl,rfl,rfl,rfl,rfl,rfl,rfl,trivial⟩ func122 rfl ?_ ?_
         · refine aV 2 rfl ?_;refine aH (d:=64) rfl (fun hg=>?_) (fun hg=>?_)
           · refine aV 6 rfl ?_;refine aC rfl ?_;exact⟨rfl,az rfl (by rw[hg];rfl),rfl,rfl,rfl,rfl,rfl,rfl,rfl,rfl,rfl,trivial⟩
           · refine cx 2 rfl rfl (ak.aF underlying25 H.vF rfl rfl k rfl rfl (by omega)) ?_;refine xp rfl (af H.F1 rfl hcc6) ?_;refine aV 2 rfl ?_;refine aC rfl ?_;exact⟨rfl,az rfl (by rw[hg];rfl),rfl,rfl,rfl,rfl,rfl,rfl,rfl,rfl,rfl,trivial⟩
         · refine G.aT ?_;refine G.bV func122 rfl ?_;refine xp rfl (ak.bL rfl rfl ⟨by omega,by omega⟩) ?_;refine aS 1 [0,3,4,5,19,20,21,41,42,43] rfl ?_;exact ih2 (k+1,ag ||dH d out k,out.set k (dH d out k)) _ _ ⟨rfl,rfl,rfl,rfl,rfl,rfl,trivial⟩ ⟨eg6,ho6,by show (out.set k _).length=_;rw[List.length_set];exact hol,hkN,by show cA d (d.next.length-(k+1)) _ _ _=ps;rw[show d.next.length-(k+1)=m by omega];exact hcon2⟩ (by show d.next.length-(k+1)<d.next.length-k;omega)
   · have hke:d.next.length-k=0:=by omega
     rw[hke,cA] at hcon2;subst hcon2;simp only at hcon hless;refine bN rfl rfl ?_;refine G.aT ?_
     exact ih (n,ag,out) _ _ ⟨rfl,rfl,rfl,trivial⟩ ⟨eg2,ho,hol,fun ht=>by
      subst ht;rw[if_pos rfl] at hcon
      rcases hless.2 rfl with k|k
      · cases k
      · exact⟨by show gb out<n;omega,hcon⟩,fun hf=>by
      subst hf;rw[if_neg (by decide)] at hcon;exact hcon⟩ (by show n+(if ag=true then 1 else 0)<n+1+(if true=true then 1 else 0);rw[if_pos rfl];split<;>omega)
 · subst hag;have hcon:=hF rfl;refine bN rfl rfl ?_;refine aY func122 2 [0,2,3,4,15] rfl ?_;refine aK func122 rfl rfl ?_;exact⟨_,rfl,by rw[<-hcon];unfold cN at ho ⊢;rw[hol] at ho ⊢;exact ho,eg⟩
def gL:Nat->List (List Int)->List (ByteArray×Int)
 |_,[]=>[]
 |i,x::r=>(bs (gv x),(i:Int))::gL (i+1) r
theorem sK:∀(ls:List (List Int)) (i:Nat) (l:List Int),gL i (ls++[l])=gL i ls++[(bs (gv l),((i+ls.length:Nat):Int))]
 | [],i,l=>by simp[gL]
 |x::r,i,l=>by
  simp only[List.cons_append,gL];rw[sK r (i+1) l,List.length_cons,show i+1+r.length=i+(r.length+1) by omega]
theorem qs:∀(ls:List (List Int)) (i:Nat),(gL i ls).length=ls.length
 | [],_=>rfl
 |x::r,i=>by rw[gL,List.length_cons,List.length_cons,qs r (i+1)]
theorem kE:∀(ls:List (List Int)) (i:Nat) (l:List Int),kI (bs (gv l)) (gL i ls)=(jF i ls l).map fun j=>(j:Int)
 | [],i,l=>rfl
 |x::r,i,l=>by
  rw[gL,kI,jF]
  by_cases h:l=x
  · subst h;rw[if_pos rfl,if_pos rfl];rfl
  · have hk:¬bs (gv l)=bs (gv x):=fun e=>h (key_inj (gE e))
    rw[if_neg hk,if_neg h];exact kE r (i+1) l
theorem uD {t:Int}(h:t<0\/live.getD t.toNat false=false):cF live cls t= -2:=if_pos h
theorem BK {t:Int}(h:¬(t<0\/live.getD t.toNat false=false)):cF live cls t=cls.getD t.toNat 0:=if_neg h
theorem rD (hcb:∀x∈cls,-1<=x/\x<=1000000) (k:Nat) : -1<=cls.getD k 0/\cls.getD k 0<=1000000:=by
 rw[List.getD_eq_getElem?_getD];cases hk:cls[k]? with
 |none=>simp
 |some x=>exact hcb x (List.mem_of_getElem? hk)
theorem xb (hcb:∀x∈cls,-1<=x/\x<=1000000) (k:Nat):∀x∈eZ d live cls k,-9223372036854775808<=x/\x<=9223372036854775807:=by
 intro x hx
 rcases List.mem_cons.1 hx with e|e
 · have:=rD hcb k;omega
 · obtain⟨t,_,rfl⟩:=List.mem_map.1 e;unfold cF;split
   · omega
   · have:=rD hcb t.toNat;omega
theorem ug:∀(ls:List (List Int)) (i:Nat) (l:List Int),jF i ls l=none->jF i (ls++[l]) l=some (i+ls.length)
 | [],i,l,_=>by simp[jF]
 |x::r,i,l,h=>by
  rw[jF] at h;split at h
  · cases h
  · rename_i hn;rw[List.cons_append,jF,if_neg hn,ug r (i+1) l h,List.length_cons]
    congr 1;omega
theorem vh {lv:Value}(htens:si h) (k:nX h db d) (hok:d.Ok) (hlv:cn .bool h (fun _=>False) lv live) (hll:live.length=d.next.length) :
 ah Tryz.prog 123 #[.pointer (some ⟨db,0,none⟩),lv] h (bX fun r h'=>cN (Value.int .i64) h' h.size 3 r (ef d live)/\aD h h'):=by
 obtain⟨vn,vr,hk,⟨na,nn,nc,rfl,hnl,hnc,hnm,hgetn⟩,⟨ra,rn,rc,rfl,hrl,hrc,hrm,hgetr⟩⟩:=k;obtain⟨va,vm,vc,rfl,hvl,hvc,hvm,hgetv⟩:=hlv;have hlen:=hok.len;have hsize:=hok.size;have hslN:cn Cs h (fun _=>False) (.slice na nn nc) d.next:=⟨_,_,_,rfl,hnl,hnc,hnm,hgetn⟩
 have hslR:cn (.int .i64) h (fun _=>False) (.slice ra rn rc) d.rule:=⟨_,_,_,rfl,hrl,hrc,hrm,hgetr⟩
 have hslV:cn .bool h (fun _=>False) (.slice va vm vc) live:=⟨_,_,_,rfl,hvl,hvc,hvm,hgetv⟩
 subst hnl;generalize htgt:ef d live=tgt;refine ah.of func123 rfl rfl ?_;refine aY func123 1 [0,1,4] rfl ?_;refine bB func123 2 rfl ?_;refine xp rfl (aa (off:=0) underlying160 rfl rfl H.jV rfl) ?_;refine xp rfl (af H.qi rfl (hk.cell (i:=0) rfl)) ?_;refine xp rfl (ak.aN underlying158 rfl) ?_;refine xo rfl (av.mu underlying44 H.nH H.Lc rfl rfl rfl (by omega) (by decide)) ?_;rintro _ h1 ⟨rfl,k1,e1⟩;have k1:cN (Value.int .i64) h1 h.size 3 (.slice (some ⟨h.size,0,none⟩) d.next.length d.next.length) (List.replicate d.next.length 0):=by unfold cN;simpa using k1
 refine aS 1 [0,1,4,5] rfl ?_;refine au rfl ?_;refine bB func123 1 rfl ?_;refine xp rfl (ak.aN underlying44 rfl) ?_;refine aS 1 [0,1,4,5,25,26] rfl ?_;refine G.block rfl rfl ?_;refine bT (σ:=Nat) (fun i=>[(0,.pointer (some ⟨db,0,none⟩)),(1,.slice va vm vc),(5,.slice (some ⟨h.size,0,none⟩) d.next.length d.next.length),(25,.int .i64 (d.next.length:Nat)),(26,.int .i64 (i:Nat))]) (fun i h'=>aD h h'/\cN (Value.int .i64) h' h.size 3 (.slice (some ⟨h.size,0,none⟩) d.next.length d.next.length) (d.rule.take i++List.replicate (d.next.length-i) 0)/\i<=d.next.length) (fun i=>d.next.length-i) (0) rfl ⟨rfl,rfl,rfl,rfl,rfl,trivial⟩ ⟨e1,by simpa using k1,Nat.zero_le _⟩ ?_;rintro i g ⟨eg,ho,hi⟩ ih;refine aY func123 1 [0,1,5,25,26,27] rfl ?_;refine au rfl ?_;refine aG rfl rfl (fun hlt=>?_) (fun hlt=>?_)
 · have hiN:i<d.next.length:=by omega
   obtain⟨x,hx⟩:∃x,d.rule[i]? =some x:=⟨_,List.getElem?_eq_getElem (by omega)⟩
   have hxe:d.rule[i]'(by omega)=x:=(List.getElem?_eq_some_iff.1 hx).2;obtain⟨oa',n',c',hv',_,_,_,hgetr⟩:=id (hslR.mv (Mv.ax eg));cases hv';obtain⟨b2,o2,cs2,ha2,_,hrow2,rfl⟩:=hgetr i x hx;obtain⟨gg,c4,hv4,hgb,hglt,hcell,hfz,hset⟩:=ho.at (Fp (z:=(0:Int)) hlen hiN);rw[Fo hlen hi] at hv4;cases hv4;refine aA rfl ?_;refine au rfl ?_;refine G.block rfl rfl ?_;refine aY func123 2 [0,1,5,6,25,26,27] rfl ?_;refine G.bV func123 rfl ?_;refine cx 4 rfl rfl (aa (off:=1) underlying160 rfl rfl H.fS rfl) ?_;refine xp rfl (af H.lB rfl ((hk.ax eg).cell (i:=1) rfl)) ?_;refine cx 1 rfl rfl (ak.aF underlying44 H.aQ rfl rfl i rfl ha2 (by omega)) ?_;refine xp rfl (af H.bD rfl (hrow2 0 _ rfl)) ?_;refine xp rfl (ak.aF underlying44 H.aQ rfl rfl i rfl rfl (by omega)) ?_;refine RW.bh rfl rfl rfl (cj H.aQ rfl rfl rfl hcell hfz) ?_;rintro _ g2 ⟨rfl,hg2⟩;have hset:=hset x;rw[<-hg2,<-hxe,Fm hlen hiN] at hset;have x2:Ext (fun b=>b=h.size) g g2:=by rw[hg2];exact Ext.dS _ _ _ rfl
   have e2:aD h g2:=aD.only eg x2 (Nat.le_refl _);refine xd [0,1,5,6,25,26,27] rfl ?_;refine G.aT ?_;refine G.bV func123 rfl ?_;refine xp rfl (ak.bL rfl rfl ⟨by omega,by omega⟩) ?_;refine aS 1 [0,1,5,6,25,26,27] rfl ?_;exact ih (i+1) _ _ ⟨rfl,rfl,rfl,rfl,rfl,trivial⟩ ⟨e2,hset,hiN⟩ (by show d.next.length-(i+1)<d.next.length-i;omega)
 · obtain rfl:i=d.next.length:=by omega
   rw[Nat.sub_self,List.replicate_zero,List.append_nil,List.take_of_length_le (by omega)] at ho;refine bN rfl rfl ?_;refine aY func123 1 [0,1,5,7,25,26,27] rfl ?_;refine G.block rfl rfl ?_;refine bT (σ:=Nat×Nat×Value×List Int) (fun q=>[(0,.pointer (some ⟨db,0,none⟩)),(1,.slice va vm vc),(5,q.2.2.1),(7,.int .i64 (q.2.1:Nat))]) (fun q h'=>aD h h'/\cN (Value.int .i64) h' h.size 3 q.2.2.1 q.2.2.2/\q.2.2.2.length=d.next.length/\(∀x∈q.2.2.2,-1<=x/\x<=1000000)/\(q.2.1<=d.next.length/\jt q.2.1 q.2.2.2/\d.next.length+1<=q.1+q.2.1)/\jS d live q.1 q.2.1 q.2.2.2=tgt) (fun q=>q.1) ((d.next.length+1,0,.slice (some ⟨h.size,0,none⟩) d.next.length d.next.length,d.rule)) rfl ⟨rfl,rfl,rfl,rfl,trivial⟩ ⟨eg,ho,hlen,hok.ru,⟨Nat.zero_le _,fun i hi=>absurd hi (Nat.not_lt_zero _),by simp⟩,htgt⟩ ?_;rintro⟨n,many,vcl,cls⟩ g ⟨eg,ho,hcl,hcb,⟨hmN,hcov,hfuel⟩,hcon⟩ ih
   try dsimp only
   dsimp only at ho hcl hcb hmN hcov hfuel hcon;obtain⟨n,rfl⟩:∃m,n=m+1:=⟨n-1,by omega⟩
   rw[jS] at hcon;have hmore:=mL (d:=d) (live:=live) hcov hcl;have hend:=eP d live cls;generalize hps:bI d live cls d.next.length 0 [] []=ps at hcon hmore hend
   obtain⟨la,lc,rfl,_⟩:=(show aM g h.size 3 1 vcl cls.length (cls.map (Value.int .i64)) from ho).open;rw[hcl] at ho;have hown:∀b,(Value.slice la d.next.length lc).ownBlock=some b->b<g.size:=fun b hb=>(aM.lt ho hb).2
   rw[hcl];refine G.block rfl rfl ?_;refine xr func123 rfl ?_;refine xo rfl (mU (ek:=Value.string) (ev:=Value.int .i64)) ?_;rintro _ g1 ⟨rfl,hm1,e1',z1⟩;refine aS 1 [0,1,5,7,8] rfl ?_;refine bB func123 1 rfl ?_;refine xp rfl (ak.aN underlying44 rfl) ?_;refine xo rfl (av.mu underlying44 H.nH H.Lc rfl rfl rfl (by omega) (by decide)) ?_;rintro _ g2 ⟨rfl,k2,e2⟩;have k2:cN (Value.int .i64) g2 g1.size 3 (.slice (some ⟨g1.size,0,none⟩) d.next.length d.next.length) (List.replicate d.next.length 0):=by unfold cN;simpa using k2
   have hm2:=hm1.ext e2 (fun k=>k);have e12:=e1'.trans e2;refine aS 1 [0,1,5,7,8,9] rfl ?_;refine au rfl ?_;refine bB func123 2 rfl ?_;refine xp rfl (aa (off:=0) underlying160 rfl rfl H.jV rfl) ?_;refine xp rfl (af H.qi rfl ((hk.ax (eg.trans e12)).cell (i:=0) rfl)) ?_;refine xp rfl (ak.aN underlying158 rfl) ?_;refine aS 1 [0,1,5,7,8,9,47,48,49] rfl ?_;refine G.block rfl rfl ?_;refine bT (σ:=Nat×List (List Int)×List Int) (fun q=>[(0,.pointer (some ⟨db,0,none⟩)),(1,.slice va vm vc),(5,.slice la d.next.length lc),(7,.int .i64 (many:Nat)),(8,.map (some g.size)),(9,.slice (some ⟨g1.size,0,none⟩) d.next.length d.next.length),(47,.slice na d.next.length nc),(48,.int .i64 (d.next.length:Nat)),(49,.int .i64 (q.1:Nat))]) (fun q h'=>aD g h'/\fy Value.string (Value.int .i64) h' g.size (gL 0 q.2.1)/\cN (Value.int .i64) h' g1.size 3 (.slice (some ⟨g1.size,0,none⟩) d.next.length d.next.length) (q.2.2++List.replicate (d.next.length-q.1) 0)/\(q.1<=d.next.length/\q.2.2.length=q.1/\q.2.1.length<=q.1)/\bI d live cls (d.next.length-q.1) q.1 q.2.1 q.2.2=ps) (fun q=>d.next.length-q.1) ((0,[],[])) rfl ⟨rfl,rfl,rfl,rfl,rfl,rfl,rfl,rfl,rfl,trivial⟩ ⟨e12,hm2,k2,⟨Nat.zero_le _,rfl,Nat.le_refl _⟩,hps⟩ ?_;rintro⟨k,seen,after⟩ g3 ⟨e3,hmp,haf,⟨hkN,hal,hsl⟩,hcon2⟩ ih2
   try dsimp only
   dsimp only at hmp haf hkN hal hsl hcon2;have eg3:=eg.trans e3;have ho3:=cN.ax ho e3;refine aY func123 1 [0,1,5,7,8,9,47,48,49,50] rfl ?_;refine au rfl ?_;refine aG rfl rfl (fun hlt=>?_) (fun hlt=>?_)
   · have hkN:k<d.next.length:=by omega
     obtain⟨m,hm⟩:∃m,d.next.length-k=m+1:=⟨d.next.length-k-1,by omega⟩
     rw[hm,bI] at hcon2;obtain⟨r,hr⟩:∃r,d.next[k]? =some r:=⟨_,List.getElem?_eq_getElem hkN⟩
     obtain⟨oa',n',c',hv',_,_,_,hgetn⟩:=id (hslN.mv (Mv.ax eg3));cases hv';obtain⟨b1,o1,cs1,ha1,_,hrow1,rfl⟩:=hgetn k r hr;have hone:∀u∈b8 r,u.oneCell'=true:=fun u hu=>by simp[b8] at hu;obtain⟨_,_,rfl⟩:=hu;rfl
     have hrow:d.row k=r.v:=by unfold cg.row;rw[hr]
     refine aA rfl ?_;refine au rfl ?_;refine G.block rfl rfl ?_;refine bB func123 1 rfl ?_;refine xp rfl (ak.aF underlying158 H.jU rfl rfl k rfl ha1 (by omega)) ?_;refine xp rfl (ak.aq H.uI H.jU rfl hrow1 (by first|rfl|(simp;done)|(simp;omega))) ?_;refine xo rfl (av.aW H.BX) ?_;rintro _ g4 ⟨rfl,k4,e4,z4⟩;have k4:br g4 g3.size 164 (List.replicate 256 (Value.int .i64 0)):=k4;refine aV 1 rfl ?_;refine RW.bh rfl rfl rfl (av.an H.jU rfl rfl k4 (by first|rfl|(simp;done)|(simp;omega)) (by first|decide|exact of_decide_eq_true rfl|(simp;done)|(simp;omega)) (hone)) ?_;rintro _ g5 ⟨rfl,k5,x5,z5⟩;have k5:br g5 g3.size 164 (b8 r):=by rw[<-ze r];exact k5
     have e5:aD g3 g5:=aD.only e4 x5 (Nat.le_refl _);have ho5:=cN.ax ho3 e5;obtain⟨c,hc⟩:∃c,cls[k]? =some c:=⟨_,List.getElem?_eq_getElem (by omega)⟩
     have hgd:cls.getD k 0=c:=by rw[List.getD_eq_getElem?_getD,hc];rfl
     obtain⟨gg,c4,hv4,hgb,hglt,hcell,hfz,hset⟩:=ho5.at hc;rw[hcl] at hv4;have hla:la=some ⟨gg,0,none⟩:=by cases hv4;rfl
     refine xd [0,1,5,7,8,9,10,11,47,48,49,50] rfl ?_;refine bB func123 2 rfl ?_;refine xp rfl (ak.aF underlying44 H.aQ rfl rfl k rfl hla (by omega)) ?_;refine xp rfl (af H.bD rfl hcell) ?_;have e56:aD g5 (g5.push (.cells #[.int .i64 c] 3)):=Ext.push _ _ _;have hl6:cN (Value.int .i64) (g5.push (.cells #[.int .i64 c] 3)) g5.size 3 (.slice (some ⟨g5.size,0,none⟩) 1 1) [c]:=uP (Value.int .i64) g5 3 [c] 1 rfl (by decide) g5.size (Nat.le_refl _) rfl;refine xo rfl (av.bC (us:=[_]) underlying44 H.nH rfl rfl (by decide) (by simp[Value.oneCell'])) ?_;rintro _ _ ⟨rfl,rfl⟩;refine aS 1 [0,1,5,7,8,9,10,11,12,47,48,49,50] rfl ?_;refine au rfl ?_;refine xr func123 rfl ?_;generalize g5.push (.cells #[.int .i64 c] 3)=g6 at *;have k6:=k5.ax e56;have e36:aD g3 g6:=e5.trans e56;have ho6:=cN.ax ho5 e56;have hz5:=e5.size;refine xp rfl (ak.aq H.uI H.jU rfl k6.row (by first|rfl|(simp;done)|(simp;omega))) ?_;refine aS 1 [0,1,5,7,8,9,10,11,12,47,48,49,50,59,60] rfl ?_;refine G.block rfl rfl ?_;refine bT (σ:=Nat×Value) (fun q=>[(0,.pointer (some ⟨db,0,none⟩)),(1,.slice va vm vc),(5,.slice la d.next.length lc),(7,.int .i64 (many:Nat)),(8,.map (some g.size)),(9,.slice (some ⟨g1.size,0,none⟩) d.next.length d.next.length),(10,.int .i64 (k:Nat)),(12,q.2),(47,.slice na d.next.length nc),(48,.int .i64 (d.next.length:Nat)),(49,.int .i64 (k:Nat)),(59,.agg (b8 r).toArray),(60,.int .i64 (q.1:Nat))]) (fun q h'=>aD g3 h'/\cN (Value.int .i64) h' g5.size 3 q.2 (c::(r.v.take q.1).map (cF live cls))/\q.1<=256/\g5.size<=h'.size) (fun q=>256-q.1) ((0,.slice (some ⟨g5.size,0,none⟩) 1 1)) rfl ⟨rfl,rfl,rfl,rfl,rfl,rfl,rfl,rfl,rfl,rfl,rfl,rfl,rfl,trivial⟩ ⟨e36,hl6,Nat.zero_le _,e56.size⟩ ?_;rintro⟨j,vl⟩ g7 ⟨e7,hl7,hj,hz7⟩ ih3
     try dsimp only
     dsimp only at hl7 hj;have eg7:=eg3.trans e7;have ho7:=cN.ax ho3 e7;have hlen7:(c::(r.v.take j).map (cF live cls)).length=j+1:=by simp[r.len];omega
     refine aY func123 1 [0,1,5,7,8,9,10,12,47,48,49,59,60,61] rfl ?_;refine au rfl ?_;refine aG rfl rfl (fun hlt3=>?_) (fun hlt3=>?_)
     · have hj2:j<256:=by omega
       obtain⟨t,ht⟩:∃t,r.v[j]? =some t:=⟨_,List.getElem?_eq_getElem (by rw[r.len];exact hj2)⟩
       have htm:=hok.to r (List.mem_of_getElem? hr) t (List.mem_of_getElem? ht);have htr:c::(r.v.take (j+1)).map (cF live cls)=(c::(r.v.take j).map (cF live cls))++[cF live cls t]:=by rw[List.take_add_one,ht];simp
       have hlo:aM g7 g5.size 3 1 vl (c::(r.v.take j).map (cF live cls)).length ((c::(r.v.take j).map (cF live cls)).map (Value.int .i64)):=hl7;have hlo2:=hlo;rw[hlen7] at hlo2;obtain⟨wa,wc,rfl,_⟩:=hlo2.open;have hl8:cN (Value.int .i64) g7 g5.size 3 (.slice wa (j+1) wc) (c::(r.v.take j).map (cF live cls)):=hl7
       have fin:∀v8 g8 x,aM g8 g5.size 3 1 v8 (j+1+1) ((c::(r.v.take j).map (cF live cls)).map (Value.int .i64)++[.int .i64 x])->Ext (dn (Value.slice wa (j+1) wc).ownBlock) g7 g8->x=cF live cls t->aD g3 g8/\cN (Value.int .i64) g8 g5.size 3 v8 (c::(r.v.take (j+1)).map (cF live cls))/\j+1<=256/\g5.size<=g8.size:=by
        rintro v8 g8 x ho hx rfl;refine⟨cN.grown e7 hl8 hz5 hx,?_,hj2,Nat.le_trans hz7 hx.size⟩;rw[htr];exact cN.of ho hlen7.symm rfl rfl
       refine aA rfl ?_;refine au rfl ?_;refine G.block rfl rfl ?_;refine xr func123 rfl ?_;refine xp rfl (ak.tP underlying164 H.aQ H.bD rfl rfl j rfl hj2 (show (b8 r).toArray[j]? =some (Value.int .i64 t) by simp[b8,ht])) ?_;refine aS 1 [0,1,5,7,8,9,10,12,14,47,48,49,59,60,61] rfl ?_;refine bB func123 3 rfl ?_;refine aH (d:=65) rfl (fun hg=>?_) (fun hg=>?_)
       · have hg':=of_decide_eq_true hg;refine aS 6 [0,1,5,7,8,9,10,12,14,47,48,49,59,60,61,71] rfl ?_;refine aO rfl rfl (fun _=>?_) (fun hc=>absurd hc (by simp));refine G.bV func123 rfl ?_;refine aV 1 rfl ?_;refine xo rfl (av.bC (us:=[_]) underlying44 H.nH rfl rfl (by decide) (by simp[Value.oneCell'])) ?_;rintro _ _ ⟨rfl,rfl⟩;refine xo rfl (av.cH underlying44 H.nH rfl rfl (hlo2) rfl rfl (by first|decide|simp[Value.oneCell']) (by omega) (by decide) (by omega)) ?_;rintro v8 g8 ⟨ho8,hx8,hx8',hv8⟩;have ff:=fin v8 g8 (-2) ho8 hx8 (uD (.inl hg')).symm;obtain⟨v8a,v8c,rfl,_⟩:=ho8.open;refine aS 1 [0,1,5,7,8,9,10,12,14,47,48,49,59,60,61,71] rfl ?_;refine G.aT ?_;refine G.bV func123 rfl ?_;refine xp rfl (ak.bL rfl rfl ⟨by omega,by omega⟩) ?_;refine aS 1 [0,1,5,7,8,9,10,12,14,47,48,49,59,60,61,71] rfl ?_;exact ih3 (j+1,_) _ _ ⟨rfl,rfl,rfl,rfl,rfl,rfl,rfl,rfl,rfl,rfl,rfl,rfl,rfl,trivial⟩ ff (by show 256-(j+1)<256-j;omega)
       · have hg':=of_decide_eq_false hg;obtain⟨t2,rfl⟩:=Int.eq_ofNat_of_zero_le (show 0<=t by omega);obtain⟨bt,hbt⟩:∃bt,live[t2]? =some bt:=⟨_,List.getElem?_eq_getElem (by omega)⟩
         have hlt2:live.getD t2 false=bt:=by rw[List.getD_eq_getElem?_getD,hbt];rfl
         obtain⟨oa',n',c',hv',_,_,_,hgetv⟩:=id (hslV.mv (Mv.ax eg7));cases hv';obtain⟨b3,o3,cs3,ha3,_,hrow3,rfl⟩:=hgetv t2 bt hbt;refine cx 2 rfl rfl (ak.aF underlying25 H.vF rfl rfl t2 rfl ha3 (by omega)) ?_;refine xp rfl (af H.F1 rfl (hrow3 0 _ rfl)) ?_;refine aS 2 [0,1,5,7,8,9,10,12,14,47,48,49,59,60,61,71] rfl ?_;refine aO rfl rfl (fun hb=>?_) (fun hb=>?_)
         · have hb':bt=false:=by simpa using hb
           refine G.bV func123 rfl ?_;refine aV 1 rfl ?_;refine xo rfl (av.bC (us:=[_]) underlying44 H.nH rfl rfl (by decide) (by simp[Value.oneCell'])) ?_;rintro _ _ ⟨rfl,rfl⟩;refine xo rfl (av.cH underlying44 H.nH rfl rfl (hlo2) rfl rfl (by first|decide|simp[Value.oneCell']) (by omega) (by decide) (by omega)) ?_;rintro v8 g8 ⟨ho8,hx8,hx8',hv8⟩;have ff:=fin v8 g8 (-2) ho8 hx8 (uD (.inr (by show live.getD t2 false=false;rw[hlt2,hb']))).symm;obtain⟨v8a,v8c,rfl,_⟩:=ho8.open;refine aS 1 [0,1,5,7,8,9,10,12,14,47,48,49,59,60,61,71] rfl ?_;refine G.aT ?_;refine G.bV func123 rfl ?_;refine xp rfl (ak.bL rfl rfl ⟨by omega,by omega⟩) ?_;refine aS 1 [0,1,5,7,8,9,10,12,14,47,48,49,59,60,61,71] rfl ?_;exact ih3 (j+1,_) _ _ ⟨rfl,rfl,rfl,rfl,rfl,rfl,rfl,rfl,rfl,rfl,rfl,rfl,rfl,trivial⟩ ff (by show 256-(j+1)<256-j;omega)
         · have hb':bt=true:=by simpa using hb
           obtain⟨c2,hc2⟩:∃c2,cls[t2]? =some c2:=⟨_,List.getElem?_eq_getElem (by omega)⟩
           have hgd2:cls.getD t2 0=c2:=by rw[List.getD_eq_getElem?_getD,hc2];rfl
           obtain⟨gg2,c42,hv42,hgb2,hglt2,hcell2,hfz2,hset2⟩:=ho7.at hc2;rw[hcl] at hv42;have hla2:la=some ⟨gg2,0,none⟩:=by cases hv42;rfl
           refine G.bV func123 rfl ?_;refine cx 3 rfl rfl (ak.aF underlying44 H.aQ rfl rfl t2 rfl hla2 (by omega)) ?_;refine xp rfl (af H.bD rfl hcell2) ?_;refine xo rfl (av.bC (us:=[_]) underlying44 H.nH rfl rfl (by decide) (by simp[Value.oneCell'])) ?_;rintro _ _ ⟨rfl,rfl⟩;refine xo rfl (av.cH underlying44 H.nH rfl rfl (hlo2) rfl rfl (by first|decide|simp[Value.oneCell']) (by omega) (by decide) (by omega)) ?_;rintro v8 g8 ⟨ho8,hx8,hx8',hv8⟩
           have ff:=fin v8 g8 c2 ho8 hx8 (by
            rw[BK (by
             rintro(e|e)
             · exact hg' e
             · rw[Int.toNat_natCast,hlt2,hb'] at e;cases e),Int.toNat_natCast,hgd2])
           obtain⟨v8a,v8c,rfl,_⟩:=ho8.open;refine aS 1 [0,1,5,7,8,9,10,12,14,47,48,49,59,60,61,71] rfl ?_;refine G.aT ?_;refine G.bV func123 rfl ?_;refine xp rfl (ak.bL rfl rfl ⟨by omega,by omega⟩) ?_;refine aS 1 [0,1,5,7,8,9,10,12,14,47,48,49,59,60,61,71] rfl ?_;exact ih3 (j+1,_) _ _ ⟨rfl,rfl,rfl,rfl,rfl,rfl,rfl,rfl,rfl,rfl,rfl,rfl,rfl,trivial⟩ ff (by show 256-(j+1)<256-j;omega)
     · obtain rfl:j=256:=by omega
       have hkey:c::(r.v.take 256).map (cF live cls)=eZ d live cls k:=by unfold eZ;rw[hgd,hrow,List.take_of_length_le (by rw[r.len];exact Nat.le_refl _)]
       have hkb:=xb (d:=d) (live:=live) hcb k;have hkl:(eZ d live cls k).length<=1000000:=by rw[<-hkey,hlen7];decide
       rw[hkey] at hl7;generalize hkk:eZ d live cls k=key at *;refine bN rfl rfl ?_;refine bB func123 1 rfl ?_;refine xo rfl (aj (vs:=[_]) func118 rfl H.Cg rfl (ah.aX (qC (O:=fun _=>False) (htens.ax eg7) (cN.read (h1:=fun _=>rfl) hl7 (fun _ _ k=>k)) hkl hkb))) ?_;rintro _ g8 ⟨rfl,e8⟩;have e38:aD g3 g8:=e7.trans e8;have eg8:aD g g8:=e3.trans e38;have mp8:=hmp.ext e38 (fun k=>k);have haf8:=cN.ax haf e38
       have hk0:(after++List.replicate (d.next.length-k) (0:Int))[k]? =some 0:=by
        rw[List.getElem?_append_right (by omega),List.getElem?_replicate,if_pos (by omega)]
       have hl0:(after++List.replicate (d.next.length-k) (0:Int)).length=d.next.length:=by simp;omega
       have hsetA:∀y:Int,(after++List.replicate (d.next.length-k) (0:Int)).set k y=(after++[y])++List.replicate (d.next.length-(k+1)) 0:=fun y=>by
        rw[List.set_append_right _ _ (by omega),hal,Nat.sub_self,show d.next.length-k=(d.next.length-(k+1))+1 by omega,List.replicate_succ,List.set_cons_zero];simp
       have hz12:=e1'.size
       have fin2:∀(gA gB:ay) (seen':List (List Int)) (y:Int),aD g gA->fy Value.string (Value.int .i64) gA g.size (gL 0 seen')->cN (Value.int .i64) gB g1.size 3 (.slice (some ⟨g1.size,0,none⟩) d.next.length d.next.length) ((after++List.replicate (d.next.length-k) (0:Int)).set k y)->gB=dS gA ⟨g1.size,0+k*1,none⟩ (.int .i64 y)->bI d live cls m (k+1) seen' (after++[y])=ps->seen'.length<=k+1->aD g gB/\fy Value.string (Value.int .i64) gB g.size (gL 0 seen')/\cN (Value.int .i64) gB g1.size 3 (.slice (some ⟨g1.size,0,none⟩) d.next.length d.next.length) ((after++[y])++List.replicate (d.next.length-(k+1)) 0)/\(k+1<=d.next.length/\(after++[y]).length=k+1/\seen'.length<=k+1)/\bI d live cls (d.next.length-(k+1)) (k+1) seen' (after++[y])=ps:=by
        rintro gA gB seen' y eA mA hB hgB hcp hsl';have xB:Ext (fun b=>b=g1.size) gA gB:=by rw[hgB];exact Ext.dS _ _ _ rfl
        refine⟨aD.only eA xB hz12,mA.ext xB (by show ¬_=_;omega),?_,⟨hkN,by simp[hal],hsl'⟩,?_⟩
        · rw[<-hsetA];exact hB
        · rw[show d.next.length-(k+1)=m by omega];exact hcp
       refine aS 1 [0,1,5,7,8,9,10,12,15,47,48,49,59,60,61] rfl ?_;refine au rfl ?_;refine bB func123 2 rfl ?_;refine xp rfl (ak.tq (z:=.int .i64 0) js.str underlying162 underlying9 (by kernel_rfl) rfl rfl rfl mp8) ?_;rw[kE]
       rcases hfind:jF 0 seen key with _|i0
       · rw[hfind] at hcon2;simp only at hcon2;have hnone:kI (bs (gv key)) (gL 0 seen)=none:=by rw[kE,hfind];rfl
         refine aS 5 [0,1,5,7,8,9,10,12,15,17,47,48,49,59,60,61] rfl ?_;refine aY func123 2 [0,1,5,7,8,9,10,12,15,17,47,48,49,59,60,61,92] rfl ?_;refine aO rfl rfl (fun _=>?_) (fun hc=>absurd hc (by simp));refine G.bV func123 rfl ?_;refine cx 3 rfl rfl (ak.Bi underlying162 rfl (mp8)) ?_;refine RW.bh rfl rfl rfl (av.mapUpdate (v:=((gL 0 seen).length:Int)) js.str underlying162 underlying9 rfl rfl rfl rfl rfl mp8 hnone) ?_;rintro _ g9 ⟨rfl,mp9,x9,z9⟩;have mp9:fy Value.string (Value.int .i64) g9 g.size (gL 0 (seen++[key])):=by rw[sK,Nat.zero_add,<-qs seen 0];exact mp9
         have hsz8:=eg8.size;have e9:aD g g9:=aD.only eg8 x9 (Nat.le_refl _);have haf9:cN (Value.int .i64) g9 g1.size 3 (.slice (some ⟨g1.size,0,none⟩) d.next.length d.next.length) (after++List.replicate (d.next.length-k) (0:Int)):=aM.ext x9 haf8 (fun b hb (e:b=g.size)=>by have:=(aM.lt haf8 hb).1;omega);obtain⟨gg3,c3,hv3,_,_,hcell3,hfz3,hset3⟩:=haf9.at hk0;rw[hl0] at hv3;cases hv3;have hasc:kI (bs (gv key)) (gL 0 (seen++[key]))=some ((seen.length:Nat):Int):=by rw[kE,ug seen 0 key hfind,Nat.zero_add];rfl
         refine xd [0,1,5,7,8,9,10,12,15,17,47,48,49,59,60,61,92] rfl ?_;refine G.bV func123 rfl ?_;refine cx 4 rfl rfl (ak.lookup (z:=.int .i64 0) js.str underlying162 underlying9 (by kernel_rfl) rfl rfl rfl mp9) ?_;rw[hasc,Option.map_some,Option.getD_some];refine xp rfl (ak.aF underlying44 H.aQ rfl rfl k rfl rfl (by omega)) ?_;refine RW.bh rfl rfl rfl (cj H.aQ rfl rfl rfl hcell3 hfz3) ?_;rintro _ g10 ⟨rfl,hg10⟩;have hg10:g10=dS g9 ⟨g1.size,0+k*1,none⟩ (.int .i64 ((seen.length:Nat):Int)):=hg10;have hB:=hset3 ((seen.length:Nat):Int);rw[<-hg10] at hB;refine xd [0,1,5,7,8,9,10,12,15,17,47,48,49,59,60,61,92] rfl ?_;refine G.aT ?_;refine G.bV func123 rfl ?_;refine xp rfl (ak.bL rfl rfl ⟨by omega,by omega⟩) ?_;refine aS 1 [0,1,5,7,8,9,10,12,15,17,47,48,49,59,60,61,92] rfl ?_;exact ih2 (k+1,seen++[key],after++[((seen.length:Nat):Int)]) _ _ ⟨rfl,rfl,rfl,rfl,rfl,rfl,rfl,rfl,rfl,trivial⟩ (fin2 g9 g10 _ _ e9 mp9 hB hg10 hcon2 (by simp;omega)) (by show d.next.length-(k+1)<d.next.length-k;omega)
       · rw[hfind] at hcon2;simp only at hcon2;refine aS 5 [0,1,5,7,8,9,10,12,15,17,47,48,49,59,60,61] rfl ?_;refine aY func123 2 [0,1,5,7,8,9,10,12,15,17,47,48,49,59,60,61,92] rfl ?_;refine aO rfl rfl (fun hc=>absurd hc (by simp)) (fun _=>?_);obtain⟨gg3,c3,hv3,_,_,hcell3,hfz3,hset3⟩:=haf8.at hk0;rw[hl0] at hv3;cases hv3;have hasc:kI (bs (gv key)) (gL 0 seen)=some ((i0:Nat):Int):=by rw[kE,hfind];rfl
         refine aA rfl ?_;refine G.bV func123 rfl ?_;refine cx 4 rfl rfl (ak.lookup (z:=.int .i64 0) js.str underlying162 underlying9 (by kernel_rfl) rfl rfl rfl mp8) ?_;rw[hasc,Option.map_some,Option.getD_some];refine xp rfl (ak.aF underlying44 H.aQ rfl rfl k rfl rfl (by omega)) ?_;refine RW.bh rfl rfl rfl (cj H.aQ rfl rfl rfl hcell3 hfz3) ?_;rintro _ g10 ⟨rfl,hg10⟩;have hg10:g10=dS g8 ⟨g1.size,0+k*1,none⟩ (.int .i64 ((i0:Nat):Int)):=hg10;have hB:=hset3 ((i0:Nat):Int);rw[<-hg10] at hB;refine xd [0,1,5,7,8,9,10,12,15,17,47,48,49,59,60,61,92] rfl ?_;refine G.aT ?_;refine G.bV func123 rfl ?_;refine xp rfl (ak.bL rfl rfl ⟨by omega,by omega⟩) ?_;refine aS 1 [0,1,5,7,8,9,10,12,15,17,47,48,49,59,60,61,92] rfl ?_;exact ih2 (k+1,seen,after++[((i0:Nat):Int)]) _ _ ⟨rfl,rfl,rfl,rfl,rfl,rfl,rfl,rfl,rfl,trivial⟩ (fin2 g8 g10 _ _ eg8 mp8 hB hg10 hcon2 (Nat.le_succ_of_le hsl)) (by show d.next.length-(k+1)<d.next.length-k;omega)
   · obtain rfl:k=d.next.length:=by omega
     rw[Nat.sub_self,List.replicate_zero,List.append_nil] at haf;rw[Nat.sub_self,bI] at hcon2;subst hcon2;dsimp only at hcon hmore hend;have hm:=hend.size;have hsl':(gL 0 seen).length=seen.length:=qs seen 0
     have ha':cN (Value.int .i64) g3 h.size 3 (.slice (some ⟨g1.size,0,none⟩) d.next.length d.next.length) after:=BS (show aM g3 g1.size 3 1 _ after.length (after.map (Value.int .i64)) from haf) (fun b hb=>by
      cases hb;have:=eg.size;have:=e1'.size
      show h.size<=g1.size
      omega)
     refine bN rfl rfl ?_;refine aY func123 2 [0,1,5,7,8,9,47,48,49,50] rfl ?_;refine au rfl ?_;refine bB func123 1 rfl ?_;refine xp rfl (ak.Bi underlying162 rfl (hmp)) ?_;rw[hsl'];refine aS 2 [0,1,5,7,8,9,47,48,49,50,108] rfl ?_;refine aG rfl rfl (fun heq=>?_) (fun heq=>?_)
     · rw[if_pos (by omega)] at hcon;refine aY func123 2 [0,1,4,5,7,8,9,47,48,49,50,108] rfl ?_;refine aK func123 rfl rfl ?_;exact⟨_,rfl,by rw[<-hcon];exact ha',eg3⟩
     · rw[if_neg (by omega)] at hcon;refine aA rfl ?_;refine G.bV func123 rfl ?_;refine cx 1 rfl rfl (ak.Bi underlying162 rfl (hmp)) ?_;rw[hsl'];refine aS 1 [0,1,5,7,8,9,47,48,49,50,108] rfl ?_;refine G.aT ?_;exact ih (n,seen.length,_,after) _ _ ⟨rfl,rfl,rfl,rfl,trivial⟩ ⟨eg3,ha',hal,fun x hx=>by have:=hend.bound x hx;omega,⟨by show seen.length<=_;omega,hend.nums,by show _<=n+seen.length;omega⟩,hcon⟩ (by show n<n+1;omega)
def jZ (cls:List Int):Nat->List Nat->List (Int×Int)
 |_,[]=>[]
 |i,x::r=>(cls.getD x 0,(i:Int))::jZ cls (i+1) r
theorem sL (cls:List Int):∀(ls:List Nat) (i:Nat) (l:Nat),jZ cls i (ls++[l])=jZ cls i ls++[(cls.getD l 0,((i+ls.length:Nat):Int))]
 | [],i,l=>by simp[jZ]
 |x::r,i,l=>by
  simp only[List.cons_append,jZ];rw[sL cls r (i+1) l,List.length_cons,show i+1+r.length=i+(r.length+1) by omega]
theorem qJ (cls:List Int):∀(ls:List Nat) (i:Nat) (c:Int),kI c (jZ cls i ls)=(nT cls i ls c).map fun j=>(j:Int)
 | [],i,c=>rfl
 |x::r,i,c=>by
  rw[jZ,kI,nT]
  by_cases h:c=cls.getD x 0
  · rw[if_pos h,if_pos h];rfl
  · rw[if_neg h,if_neg h];exact qJ cls r (i+1) c
structure eF (h0 h:ay) (cls:List Int) (db mb:Nat) (vo vn vr:Value) (of:List Nat) (next:List Row) (rule:List Int):Prop where
 ext:aD h0 h
 dblk:br h db 160 [vn,vr]
 nx:rW 256 b8 h h0.size 164 vn next
 ru:cN (Value.int .i64) h h0.size 3 vr rule
 ol:cN cZ h h0.size 3 vo of
 mp:fy (Value.int .i64) (Value.int .i64) h mb (jZ cls 0 of)
 ne:∀b,vo.ownBlock=some b->vr.ownBlock≠some b
 dge:h0.size<=db
 mge:h0.size<=mb
section
variable {h0 h:ay}{cls:List Int}{db mb:Nat}{vo vn vr:Value}{of:List Nat}{next:List Row}{rule:List Int}
theorem eF.Dg (k:eF h0 h cls db mb vo vn vr of next rule):∀b,vn.ownBlock=some b->dy h b 164:=fun _ hb=>aM.ty k.nx hb
theorem eF.B8 (k:eF h0 h cls db mb vo vn vr of next rule):∀b,vr.ownBlock=some b->dy h b 3:=fun _ hb=>aM.ty k.ru hb
theorem eF.I7 (k:eF h0 h cls db mb vo vn vr of next rule):∀b,vo.ownBlock=some b->dy h b 3:=fun _ hb=>aM.ty k.ol hb
theorem eF.ax {h':ay}(k:eF h0 h cls db mb vo vn vr of next rule) (e:aD h h'):eF h0 h' cls db mb vo vn vr of next rule :=
 ⟨k.ext.trans e,k.dblk.ax e,rW.ax k.nx e,cN.ax k.ru e,cN.ax k.ol e,k.mp.ext e (fun k=>k),k.ne,k.dge,k.mge⟩
theorem eF.put {x:Nat}(k:eF h0 h cls db mb vo vn vr of next rule) (e:Ext (fun b=>b=x) h h') (hx:dy h x 164) (hn:vn.ownBlock≠some x) (hge:h0.size<=x):eF h0 h' cls db mb vo vn vr of next rule:=by
 have hd:¬db=x:=k.dblk.ty.ne hx (by decide);have hm:¬mb=x:=k.mp.ne hx;exact⟨aD.only k.ext e hge,k.dblk.ext e hd,aM.ext e k.nx (fun b hb hbx=>hn (by subst hbx;exact hb)),aM.ext e k.ru (fun b hb=>(k.B8 b hb).ne hx (by decide)),aM.ext e k.ol (fun b hb=>(k.I7 b hb).ne hx (by decide)),k.mp.ext e hm,k.ne,k.dge,k.mge⟩
theorem eF.HT {r:Row}(k:eF h0 h cls db mb vo vn vr of next rule) (hn:n=next.length) (ho:aM g3 h0.size 164 256 v3 (n+1) (next.flatMap b8++b8 r)) (hx:Ext (dn vn.ownBlock) h g3) (hd:br g4 db 160 [v3,vr]) (x4:Ext (fun b=>b=db) g3 g4) :
 eF h0 g4 cls db mb vo v3 vr of (next++[r]) rule:=by
 have nne:∀{b:Nat}{t:TypeId},dy h b t->164≠t->¬dn vn.ownBlock b:=fun kt ht e=>(k.Dg _ e.symm).ne kt ht rfl
 have d3:=k.dblk.ext hx (nne k.dblk.ty (by decide));have dne:∀{b:Nat}{t:TypeId},dy g3 b t->160≠t->¬b=db:=fun kt ht e=>by subst e;exact d3.ty.ne kt ht rfl
 have mne:¬dn vn.ownBlock mb:=fun e=>k.mp.ne (k.Dg _ e.symm) rfl
 have hm3:=k.mp.ext hx mne;have ru3:=aM.ext hx k.ru (fun b hb=>nne (k.B8 b hb) (by decide));have of3:=aM.ext hx k.ol (fun b hb=>nne (k.I7 b hb) (by decide));refine⟨⟨by have:=k.ext.size;have:=hx.size;have:=x4.size;omega,fun b hb kk=>?_⟩,hd,?_,aM.ext x4 ru3 (fun b hb=>dne (aM.ty ru3 hb) (by decide)),aM.ext x4 of3 (fun b hb=>dne (aM.ty of3 hb) (by decide)),hm3.ext x4 (hm3.ne d3.ty),k.ne,k.dge,k.mge⟩
 · rw[x4.block b (by have:=k.ext.size;have:=hx.size;omega) (by have:=k.dge;omega),hx.block b (by have:=k.ext.size;omega) (fun e=>by have:=(aM.lt k.nx e.symm).1;omega)];exact k.ext.block b hb kk
 · exact aM.ext x4 (rW.of ho hn rfl) (fun b hb=>dne (aM.ty ho hb) (by decide))
theorem eF.HS {x:Int}(k:eF h0 h cls db mb vo vn vr of next rule) (hn:n=rule.length) (ho:aM g3 h0.size 3 1 v3 (n+1) (rule.map (Value.int .i64)++[.int .i64 x])) (hx:Ext (dn vr.ownBlock) h g3) (hv:∀b,v3.ownBlock=some b->vr.ownBlock=some b\/h.size<=b) (hd:br g4 db 160 [vn,v3]) (x4:Ext (fun b=>b=db) g3 g4) :
 eF h0 g4 cls db mb vo vn v3 of next (rule++[x]):=by
 have nne:∀{b:Nat}{t:TypeId},dy h b t->3≠t->¬dn vr.ownBlock b:=fun kt ht e=>(k.B8 _ e.symm).ne kt ht rfl
 have d3:=k.dblk.ext hx (nne k.dblk.ty (by decide));have dne:∀{b:Nat}{t:TypeId},dy g3 b t->160≠t->¬b=db:=fun kt ht e=>by subst e;exact d3.ty.ne kt ht rfl
 have mne:¬dn vr.ownBlock mb:=fun e=>k.mp.ne (k.B8 _ e.symm) rfl
 have hm3:=k.mp.ext hx mne;have nx3:=aM.ext hx k.nx (fun b hb=>nne (k.Dg b hb) (by decide));have of3:=aM.ext hx k.ol (fun b hb e=>k.ne b hb e.symm);refine⟨⟨by have:=k.ext.size;have:=hx.size;have:=x4.size;omega,fun b hb kk=>?_⟩,hd,aM.ext x4 nx3 (fun b hb=>dne (aM.ty nx3 hb) (by decide)),?_,aM.ext x4 of3 (fun b hb=>dne (aM.ty of3 hb) (by decide)),hm3.ext x4 (hm3.ne d3.ty),fun b hb e=>?_,k.dge,k.mge⟩
 · rw[x4.block b (by have:=k.ext.size;have:=hx.size;omega) (by have:=k.dge;omega),hx.block b (by have:=k.ext.size;omega) (fun e=>by have:=(aM.lt k.ru e.symm).1;omega)];exact k.ext.block b hb kk
 · exact aM.ext x4 (cN.of (ys:=[x]) ho hn rfl rfl) (fun b hb=>dne (aM.ty ho hb) (by decide))
 · rcases hv b e with e|e
   · exact k.ne b hb e
   · have:=(k.I7 b hb).lt;omega
theorem eF.more {g1 g2:ay}{t:Nat}(k:eF h0 h cls db mb vo vn vr of next rule) (x1:Ext (fun b=>b=mb) h g1) (hm:fy (Value.int .i64) (Value.int .i64) g1 mb (jZ cls 0 (of++[t]))) (hn:n=of.length) (ho:aM g2 h0.size 3 1 v3 (n+1) (of.map cZ++[cZ t])) (hx:Ext (dn vo.ownBlock) g1 g2) (hv:∀b,v3.ownBlock=some b->vo.ownBlock=some b\/g1.size<=b) :
 eF h0 g2 cls db mb v3 vn vr (of++[t]) next rule:=by
 have mne:∀{b:Nat}{t:TypeId},dy h b t->¬b=mb:=fun kt e=>k.mp.ne kt e.symm
 have d1:=k.dblk.ext x1 (mne k.dblk.ty);have nx1:=aM.ext x1 k.nx (fun b hb=>mne (k.Dg b hb));have ru1:=aM.ext x1 k.ru (fun b hb=>mne (k.B8 b hb));have of1:=aM.ext x1 k.ol (fun b hb=>mne (k.I7 b hb));have one:∀{b:Nat}{t:TypeId},dy g1 b t->3≠t->¬dn vo.ownBlock b:=fun kt ht e=>(show dy g1 _ 3 from aM.ty of1 e.symm).ne kt ht rfl
 refine⟨⟨by have:=k.ext.size;have:=hx.size;have:=x1.size;omega,fun b hb kk=>?_⟩,d1.ext hx (one d1.ty (by decide)),aM.ext hx nx1 (fun b hb=>one (aM.ty nx1 hb) (by decide)),aM.ext hx ru1 (fun b hb e=>k.ne b e.symm hb),cN.of (ys:=[t]) ho hn rfl rfl,hm.ext hx (fun e=>hm.ne (aM.ty of1 e.symm) rfl),fun b hb e=>?_,k.dge,k.mge⟩
 · rw[hx.block b (by have:=k.ext.size;have:=x1.size;omega) (fun e=>by have:=(aM.lt k.ol e.symm).1;omega),x1.block b (by have:=k.ext.size;omega) (by have:=k.mge;omega)];exact k.ext.block b hb kk
 · rcases hv b hb with e'|e'
   · exact k.ne b e' e
   · have:=(show dy g1 _ 3 from aM.ty ru1 e).lt;omega
end
theorem wh (d:cg):∀(n:Nat) (out:List Bool),(pP d n out).length=out.length
 | 0,_=>rfl
 |n+1,out=>by
  rw[pP];split
  · rw[wh d n,gy]
  · rw[gy]
theorem Dm (d:cg):(bO d).length=d.next.length:=by rw[bO,wh];simp
theorem uz (d:cg) (live:List Bool):∀(n many:Nat) (cls:List Int),cls.length=d.next.length->(jS d live n many cls).length=d.next.length
 | 0,_,_,h=>h
 |n+1,many,cls,h=>by
  rw[jS];split
  · exact(eP d live cls).len
  · exact uz d live n _ _ (eP d live cls).len
theorem BF (d:cg) (live:List Bool) (h:d.rule.length=d.next.length):(ef d live).length=d.next.length:=uz d live _ _ _ h
def mT (h:ay) (O:Nat->Prop) (db:Nat) (d:cg):Prop :=
 ∃vn vr,¬O db/\br h db 160 [vn,vr]/\cn Cs h O vn d.next/\cn (.int .i64) h O vr d.rule
theorem mT.mv {h h':ay}{O O':Nat->Prop}{db:Nat}{d:cg}(k:mT h O db d) (m:Mv O O' h h'):mT h' O' db d:=by
 obtain⟨vn,vr,ho,hk,h1,h2⟩:=k;have hm:=m.block db hk.lt ho;exact⟨vn,vr,hm.2,hm.1.trans hk,h1.mv m,h2.mv m⟩
theorem mT.rd (k:mT h O db d):nX h db d:=by
 obtain⟨vn,vr,ho,hk,h1,h2⟩:=k;exact⟨vn,vr,hk,cn.less h1 (fun _ k=>k.elim),cn.less h2 (fun _ k=>k.elim)⟩
theorem Fx (htens:si h) (k:nX h db d) (hok:d.Ok) (hd0:0<d.next.length) :
 ah Tryz.prog 104 #[.pointer (some ⟨db,0,none⟩)] h (bX fun r h'=>(∃b,r= .pointer (some ⟨b,0,none⟩)/\mT h' (fun g=>g<h.size) b (kT d))/\aD h h'):=by
 have hlen:=hok.len;have hsize:=hok.size;generalize hres:kT d=res;refine ah.of func104 rfl rfl ?_;refine aY func104 1 [0,2] rfl ?_;refine au rfl ?_;refine bB func104 1 rfl ?_;refine xo rfl (aj (vs:=[_]) func121 rfl H.Hw rfl (ah.aX (Ac k))) ?_;rintro _ h0 ⟨rfl,hh0⟩;subst hh0;refine xd [0,2,15] rfl ?_;refine aG rfl rfl (fun hz=>?_) (fun hz=>?_)
 · refine aY func104 1 [0,2,15] rfl ?_;refine aK func104 rfl rfl ?_;exfalso;omega
 · rw[kT,if_neg hz] at hres;have hll:=Dm d;have hcl:=BF d (bO d) hlen;refine aA rfl ?_;refine bB func104 1 rfl ?_;refine xo rfl (aj (vs:=[_]) func122 rfl H.JE rfl (ah.aX (Bf k hok))) ?_;rintro w3 h1 ⟨ho1,e1⟩;generalize bO d=live at *;obtain⟨la,lc,rfl,_⟩:=(show aM h1 h0.size 4 1 w3 live.length (live.map Value.bool) from ho1).open;refine aS 1 [0,2,3,15] rfl ?_;refine bB func104 2 rfl ?_;refine xo rfl (aj (vs:=[_,_]) func123 rfl H.JD rfl (ah.aX (vh (htens.ax e1) (k.ax e1) hok (cN.read (O:=fun _=>False) (h1:=fun _=>rfl) ho1 (fun _ _ k=>k)) hll))) ?_;rintro w4 h2 ⟨ho2,e2⟩;generalize ef d live=cls at *;obtain⟨ca,cc,rfl,_⟩:=(show aM h2 h1.size 3 1 w4 cls.length (cls.map (Value.int .i64)) from ho2).open;have ho1:=cN.ax ho1 e2;have k2:=(k.ax e1).ax e2;have hsV:cn .bool h2 (fun _=>False) (.slice la live.length lc) live:=cN.read (h1:=fun _=>rfl) ho1 (fun _ _ k=>k);have hsC:cn (.int .i64) h2 (fun _=>False) (.slice ca cls.length cc) cls:=cN.read (h1:=fun _=>rfl) ho2 (fun _ _ k=>k);rw[hll] at hsV;rw[hcl] at hsC;rw[hll,hcl];obtain⟨c0,hc0⟩:∃c0,cls[0]? =some c0:=⟨_,List.getElem?_eq_getElem (by omega)⟩
   have hcd0:cls.getD 0 0=c0:=by rw[List.getD_eq_getElem?_getD,hc0];rfl
   refine aS 1 [0,2,3,4,15] rfl ?_;refine xr func104 rfl ?_;refine xp rfl (aP (H.FG ) rfl) ?_;refine xo rfl (av.cR rfl) ?_;rintro _ h3 ⟨rfl,kd3,e3,z3⟩;refine aS 1 [0,2,3,4,5,15] rfl ?_;refine xr func104 rfl ?_;refine xo rfl (mU (ek:=Value.int .i64) (ev:=Value.int .i64)) ?_;rintro _ h4 ⟨rfl,hm4,e4,z4⟩;have kd3:br h3 h2.size 160 [.slice none 0 0,.slice none 0 0]:=kd3;have e34:=e3.trans e4;obtain⟨oa',n',c',hv',_,_,_,hgetc⟩:=id (hsC.mv (Mv.ax e34));cases hv';obtain⟨b3,o3,cs3,ha3,_,hrow3,rfl⟩:=hgetc 0 c0 hc0;refine cx 1 rfl rfl (ak.aF underlying44 H.aQ rfl rfl 0 rfl ha3 (by omega)) ?_;refine xp rfl (af H.bD rfl (hrow3 0 _ rfl)) ?_;refine RW.bh rfl rfl rfl (uQ (v:=(0:Int)) (js.int .i64) underlying169 underlying3 rfl rfl rfl rfl rfl hm4 (rfl:kI c0 []=none)) ?_;rintro _ h5 ⟨rfl,hm5,x5,z5⟩;have hm5:fy (Value.int .i64) (Value.int .i64) h5 h3.size (jZ cls 0 [0]):=by rw[jZ,hcd0];exact hm5
   have hz3:=e3.size;have e25:aD h2 h5:=aD.only e34 x5 hz3;have kd5:br h5 h2.size 160 [.slice none 0 0,.slice none 0 0]:=(kd3.ax e4).ext x5 (by show ¬_=_;omega);refine aS 2 [0,2,3,4,5,6,15] rfl ?_;refine xr func104 rfl ?_;refine xo rfl (av.bC (us:=[_]) underlying44 H.nH rfl rfl (by decide) (by simp[Value.oneCell'])) ?_;rintro _ _ ⟨rfl,rfl⟩;refine aS 1 [0,2,3,4,5,6,7,15] rfl ?_;refine au rfl ?_;refine aY func104 1 [0,2,3,4,5,6,7,8,15] rfl ?_;refine G.block rfl rfl ?_;have e56:aD h5 (h5.push (.cells #[.int .i64 0] 3)):=Ext.push _ _ _;have ol6:cN cZ (h5.push (.cells #[.int .i64 0] 3)) h2.size 3 (.slice (some ⟨h5.size,0,none⟩) 1 1) [0]:=uP cZ h5 3 [0] 1 rfl (by decide) h2.size e25.size rfl;generalize h5.push (.cells #[.int .i64 0] 3)=h6 at *
   have mk6:eF h2 h6 cls h2.size h3.size (.slice (some ⟨h5.size,0,none⟩) 1 1) (.slice none 0 0) (.slice none 0 0) [0] [] [] :=
    ⟨e25.trans e56,kd5.ax e56,rW.nil _ _ _ _ _,cN.nil _ _ _ _,ol6,hm5.ext e56 (fun k=>k),fun b _ hb=>(by cases hb),Nat.le_refl _,hz3⟩
   refine bT (σ:=Nat×Value) (fun q=>[(0,.pointer (some ⟨db,0,none⟩)),(3,.slice la d.next.length lc),(4,.slice ca d.next.length cc),(5,.pointer (some ⟨h2.size,0,none⟩)),(6,.map (some h3.size)),(7,q.2),(8,.int .i64 (q.1:Nat))]) (fun q h'=>∃vn vr of next rule,eF h2 h' cls h2.size h3.size q.2 vn vr of next rule/\q.1<=of.length/\Ax d.next.length of/\(next.length=q.1/\rule.length=q.1)/\zq d live cls (d.next.length+1-q.1) q.1 of next rule=res) (fun q=>d.next.length+1-q.1) ((0,.slice (some ⟨h5.size,0,none⟩) 1 1)) rfl ⟨rfl,rfl,rfl,rfl,rfl,rfl,rfl,trivial⟩ ⟨_,_,[0],[],[],mk6,Nat.zero_le _,⟨by simp,fun x hx=>by simp at hx;omega⟩,⟨rfl,rfl⟩,hres⟩ ?_;rintro⟨i,vl⟩ g ⟨vn,vr,of,next,rule,mk,hi,hok2,⟨hnl,hrl⟩,hcon⟩ ih
   try dsimp only
   dsimp only at mk hi hnl hrl hcon;have hofl:=hok2.len;obtain⟨oa,oc,rfl,_⟩:=(show aM g h2.size 3 1 vl of.length (of.map cZ) from mk.ol).open;have mkg:=mk;refine au rfl ?_;refine bB func104 2 rfl ?_;refine xp rfl (ak.aN underlying44 rfl) ?_;refine aS 1 [0,3,4,5,6,7,8,32] rfl ?_;refine aG rfl rfl (fun hlt=>?_) (fun hlt=>?_)
   · have hil:i<of.length:=by omega
     obtain⟨kk,hcur⟩:∃kk,of[i]? =some kk:=⟨_,List.getElem?_eq_getElem hil⟩
     have hkN:=hok2.lt kk (List.mem_of_getElem? hcur);obtain⟨n,hnn⟩:∃n,d.next.length+1-i=n+1:=⟨d.next.length-i,by omega⟩
     rw[hnn,zq,hcur] at hcon;simp only at hcon;obtain⟨r,hr⟩:∃r,d.next[kk]? =some r:=⟨_,List.getElem?_eq_getElem hkN⟩
     have hrow:d.row kk=r.v:=by unfold cg.row;rw[hr]
     rw[hrow] at hcon;generalize htgt:fF live cls r.v of []=tgt at hcon;refine aA rfl ?_;refine au rfl ?_;refine G.block rfl rfl ?_;refine xr func104 rfl ?_;refine xo rfl (av.aW H.BX) ?_;rintro _ g1 ⟨rfl,kz,ez,zz⟩;have kz:br g1 g.size 164 (([]:List Int).map (Value.int .i64)++List.replicate (256-0) (Value.int .i64 0)):=kz;have Gj:=mk.ax ez;have hvz:vn.ownBlock≠some g.size:=fun e=>by have:=(mk.Dg _ e).lt;omega
     obtain⟨vn0,vr0,kd,⟨na,nn,nc,rfl,hnl0,hnc,hnm,hgetn⟩,hsR⟩:=id (k2.ax Gj.ext);subst hnl0;obtain⟨b1,o1,cs1,ha1,_,hrow1,rfl⟩:=hgetn kk r hr;obtain⟨gg,c4,hv4,_,_,hcell,_,_⟩:=Gj.ol.at hcur;have hoa:oa=some ⟨gg,0,none⟩:=by cases hv4;rfl
     refine xd [0,3,4,5,6,7,8,9,32] rfl ?_;refine au rfl ?_;refine au rfl ?_;refine G.ur func104 H.mixed rfl (by kernel_rfl) ?_;refine RQ.aU rfl rfl rfl rfl (bS rfl) ?_;refine RQ.aU rfl rfl rfl rfl (cB rfl) ?_;refine RQ.aU rfl rfl rfl rfl (aa (off:=0) underlying160 rfl rfl H.jV rfl) ?_;refine RQ.aU rfl rfl rfl rfl (af H.qi rfl (kd.cell (i:=0) rfl)) ?_;refine RQ.aU rfl rfl rfl rfl (bS rfl) ?_;refine RQ.aU rfl rfl rfl rfl (bS rfl) ?_;refine RQ.aU rfl rfl rfl rfl (ak.aF underlying44 H.aQ rfl rfl i rfl hoa (by omega)) ?_;refine RQ.aU rfl rfl rfl rfl (af H.bD rfl hcell) ?_;refine RQ.aU rfl rfl rfl rfl (ak.aF underlying158 H.jU rfl rfl kk rfl ha1 (by omega)) ?_;refine RQ.aU rfl rfl rfl rfl (ak.aq H.uI H.jU rfl hrow1 (by first|rfl|(simp;done)|(simp;omega))) ?_;refine RQ.aU rfl rfl rfl rfl (bS rfl) ?_;refine iX rfl ?_;refine xu [0,3,4,5,6,7,8,9,32,44,45] rfl ?_;refine G.block rfl rfl ?_;refine bT (σ:=Nat×Value) (fun q=>[(0,.pointer (some ⟨db,0,none⟩)),(3,.slice la d.next.length lc),(4,.slice ca d.next.length cc),(5,.pointer (some ⟨h2.size,0,none⟩)),(6,.map (some h3.size)),(7,q.2),(8,.int .i64 (i:Nat)),(9,.pointer (some ⟨g.size,0,none⟩)),(44,.agg (b8 r).toArray),(45,.int .i64 (q.1:Nat))]) (fun q h'=>∃of' row,eF h2 h' cls h2.size h3.size q.2 vn vr of' next rule/\(q.1<=256/\row.length=q.1)/\br h' g.size 164 (row.map (Value.int .i64)++List.replicate (256-q.1) (Value.int .i64 0))/\of'[i]? =some kk/\Ax d.next.length of'/\fF live cls (r.v.drop q.1) of' row=tgt) (fun q=>256-q.1) ((0,.slice oa of.length oc)) rfl ⟨rfl,rfl,rfl,rfl,rfl,rfl,rfl,rfl,rfl,rfl,trivial⟩ ⟨of,[],Gj,⟨Nat.zero_le _,rfl⟩,kz,hcur,hok2,htgt⟩ ?_;rintro⟨b,vl⟩ g2 ⟨of,row,mk,⟨hb,hrlen⟩,kz,hcur,hok2,hrow⟩ ih2
     try dsimp only
     dsimp only at mk hb hrlen kz hrow;have hofl:=hok2.len;obtain⟨oa,oc,rfl,_⟩:=(show aM g2 h2.size 3 1 vl of.length (of.map cZ) from mk.ol).open;refine aY func104 1 [0,3,4,5,6,7,8,9,44,45,46] rfl ?_;refine au rfl ?_;refine aG rfl rfl (fun hb256=>?_) (fun hb256=>?_)
     · have hb2:b<256:=by omega
       obtain⟨t,ht⟩:∃t,r.v[b]? =some t:=⟨_,List.getElem?_eq_getElem (by rw[r.len];exact hb2)⟩
       have htm:=hok.to r (List.mem_of_getElem? hr) t (List.mem_of_getElem? ht);have hdrop:r.v.drop b=t::r.v.drop (b+1):=by rw[List.drop_eq_getElem_cons (by rw[r.len];exact hb2),(List.getElem?_eq_some_iff.1 ht).2]
       rw[hdrop,fF] at hrow;have hso:=tg (live:=live) (cls:=cls) (t:=t) hok2 htm.2;have hsg:=(A9 (live:=live) (cls:=cls) (of:=of) (t:=t)).2 i kk hcur;have hcells:(row.map (Value.int .i64)++List.replicate (256-b) (Value.int .i64 0)).length=256:=by simp[hrlen];omega
       have hset:∀to:Int,(row.map (Value.int .i64)++List.replicate (256-b) (Value.int .i64 0)).set (0+b*1) (.int .i64 to)=(row++[to]).map (Value.int .i64)++List.replicate (256-(b+1)) (Value.int .i64 0):=fun to=>by
        rw[Nat.zero_add,Nat.mul_one,List.set_append_right _ _ (by simp;omega),show 256-b=(256-(b+1))+1 by omega,List.replicate_succ];have:b-(row.map (Value.int .i64)).length=0:=by simp;omega
        rw[this,List.set_cons_zero];simp
       have hblt:0+b*1<(row.map (Value.int .i64)++List.replicate (256-b) (Value.int .i64 0)).length:=by rw[hcells];omega
       have hzge:h2.size<=g.size:=mkg.ext.size
       have fin:∀(gA gB:ay) (vA:Value) (ofA:List Nat) (to:Int),eF h2 gA cls h2.size h3.size vA vn vr ofA next rule->br gA g.size 164 (row.map (Value.int .i64)++List.replicate (256-b) (Value.int .i64 0))->gB=dS gA ⟨g.size,0+b*1,none⟩ (.int .i64 to)->cV live cls of t=(ofA,to)->∃of' row,eF h2 gB cls h2.size h3.size vA vn vr of' next rule/\(b+1<=256/\row.length=b+1)/\br gB g.size 164 (row.map (Value.int .i64)++List.replicate (256-(b+1)) (Value.int .i64 0))/\of'[i]? =some kk/\Ax d.next.length of'/\fF live cls (r.v.drop (b+1)) of' row=tgt:=by
        rintro gA gB vA ofA to mA kA hgB hst;have k6:=kA.set (0+b*1) (.int .i64 to);rw[<-hgB,hset] at k6;have x6:Ext (fun y=>y=g.size) gA gB:=by rw[hgB];exact Ext.dS _ _ _ rfl
        rw[hst] at hso hsg hrow;exact⟨ofA,row++[to],mA.put x6 kA.ty hvz hzge,⟨hb2,by simp[hrlen]⟩,k6,hsg,hso,hrow⟩
       refine aA rfl ?_;refine au rfl ?_;refine G.block rfl rfl ?_;refine bB func104 1 rfl ?_;refine xp rfl (ak.tP underlying164 H.aQ H.bD rfl rfl b rfl hb2 (show (b8 r).toArray[b]? =some (Value.int .i64 t) by simp[b8,ht])) ?_;refine aS 2 [0,3,4,5,6,7,8,9,10,11,44,45,46] rfl ?_;refine au rfl ?_;refine bB func104 3 rfl ?_;refine aH (d:=51) rfl (fun hg=>?_) (fun hg=>?_)
       · have hg':=of_decide_eq_true hg;refine aS 6 [0,3,4,5,6,7,8,9,10,11,44,45,46,57] rfl ?_;refine aO rfl rfl (fun _=>?_) (fun hc=>absurd hc (by simp));refine bB func104 1 rfl ?_;refine xp rfl (ak.dW underlying164 H.aQ rfl rfl b rfl (by omega)) ?_;refine RW.bh rfl rfl rfl (cj H.aQ rfl rfl rfl (kz.cell (List.getElem?_eq_getElem hblt)) kz.nf) ?_;rintro _ g6 ⟨rfl,hg6⟩;have ff:=fin g2 g6 _ of (-1) mk kz hg6 (by rw[cV,if_pos (.inl hg')]);refine xd [0,3,4,5,6,7,8,9,10,11,44,45,46,57] rfl ?_;refine bN rfl rfl ?_;refine G.bV func104 rfl ?_;refine xp rfl (ak.bL rfl rfl ⟨by omega,by omega⟩) ?_;refine aS 1 [0,3,4,5,6,7,8,9,10,11,44,45,46,57] rfl ?_;exact ih2 (b+1,_) _ _ ⟨rfl,rfl,rfl,rfl,rfl,rfl,rfl,rfl,rfl,rfl,trivial⟩ ff (by show 256-(b+1)<256-b;omega)
       · have hg':=of_decide_eq_false hg;obtain⟨t2,rfl⟩:=Int.eq_ofNat_of_zero_le (show 0<=t by omega);obtain⟨bt,hbt⟩:∃bt,live[t2]? =some bt:=⟨_,List.getElem?_eq_getElem (by omega)⟩
         have hlt2:live.getD t2 false=bt:=by rw[List.getD_eq_getElem?_getD,hbt];rfl
         obtain⟨oa',n',c',hv',_,_,_,hgetv⟩:=id (hsV.mv (Mv.ax mk.ext));cases hv';obtain⟨b3,o3,cs3,ha3,_,hrow3,rfl⟩:=hgetv t2 bt hbt;refine cx 2 rfl rfl (ak.aF underlying25 H.vF rfl rfl t2 rfl ha3 (by omega)) ?_;refine xp rfl (af H.F1 rfl (hrow3 0 _ rfl)) ?_;refine aS 2 [0,3,4,5,6,7,8,9,10,11,44,45,46,57] rfl ?_;refine aO rfl rfl (fun hb=>?_) (fun hb=>?_)
         · have hb':bt=false:=by simpa using hb
           refine bB func104 1 rfl ?_;refine xp rfl (ak.dW underlying164 H.aQ rfl rfl b rfl (by omega)) ?_;refine RW.bh rfl rfl rfl (cj H.aQ rfl rfl rfl (kz.cell (List.getElem?_eq_getElem hblt)) kz.nf) ?_;rintro _ g6 ⟨rfl,hg6⟩;have ff:=fin g2 g6 _ of (-1) mk kz hg6 (by rw[cV,if_pos (.inr (by show live.getD t2 false=false;rw[hlt2,hb']))]);refine xd [0,3,4,5,6,7,8,9,10,11,44,45,46,57] rfl ?_;refine bN rfl rfl ?_;refine G.bV func104 rfl ?_;refine xp rfl (ak.bL rfl rfl ⟨by omega,by omega⟩) ?_;refine aS 1 [0,3,4,5,6,7,8,9,10,11,44,45,46,57] rfl ?_;exact ih2 (b+1,_) _ _ ⟨rfl,rfl,rfl,rfl,rfl,rfl,rfl,rfl,rfl,rfl,trivial⟩ ff (by show 256-(b+1)<256-b;omega)
         · have hb':bt=true:=by simpa using hb
           obtain⟨c2,hc2⟩:∃c2,cls[t2]? =some c2:=⟨_,List.getElem?_eq_getElem (by omega)⟩
           have hgd2:cls.getD t2 0=c2:=by rw[List.getD_eq_getElem?_getD,hc2];rfl
           have hneg:¬(((t2:Nat):Int)<0\/live.getD ((t2:Nat):Int).toNat false=false):=by
            rintro(e|e)
            · exact hg' e
            · rw[Int.toNat_natCast,hlt2,hb'] at e;cases e
           have hstep:cV live cls of ((t2:Nat):Int)=match nT cls 0 of c2 with|some i=>(of,(i:Int))|none=>(of++[t2],(of.length:Int)):=by
            rw[cV,if_neg hneg,Int.toNat_natCast,hgd2]<;>rfl
           obtain⟨oa',n',c',hv',_,_,_,hgetc⟩:=id (hsC.mv (Mv.ax mk.ext));cases hv';obtain⟨b4,o4,cs4,ha4,_,hrow4,rfl⟩:=hgetc t2 c2 hc2;refine aA rfl ?_;refine bB func104 3 rfl ?_;refine xp rfl (ak.aF underlying44 H.aQ rfl rfl t2 rfl ha4 (by omega)) ?_;refine xp rfl (af H.bD rfl (hrow4 0 _ rfl)) ?_;refine xp rfl (ak.tq (z:=.int .i64 0) (js.int .i64) underlying169 underlying3 (by kernel_rfl) rfl rfl rfl mk.mp) ?_;rw[qJ]
           rcases hfind:nT cls 0 of c2 with _|i0
           · rw[hfind] at hstep;simp only at hstep;have hnone:kI c2 (jZ cls 0 of)=none:=by rw[qJ,hfind];rfl
             refine aS 5 [0,3,4,5,6,7,8,9,10,11,12,13,44,45,46,57] rfl ?_;refine au rfl ?_;refine aY func104 2 [0,3,4,5,6,7,8,9,10,11,12,13,44,45,46,57,70] rfl ?_;refine aO rfl rfl (fun _=>?_) (fun hc=>absurd hc (by simp));refine bB func104 1 rfl ?_;refine xp rfl (ak.aN underlying44 rfl) ?_;refine aS 1 [0,3,4,5,6,7,8,9,10,11,12,13,44,45,46,57,70] rfl ?_;refine bB func104 3 rfl ?_;refine xp rfl (ak.aF underlying44 H.aQ rfl rfl t2 rfl ha4 (by omega)) ?_;refine xp rfl (af H.bD rfl (hrow4 0 _ rfl)) ?_;refine aV 1 rfl ?_;refine RW.bh rfl rfl rfl (av.mapUpdate (v:=((of.length:Nat):Int)) (js.int .i64) underlying169 underlying3 rfl rfl rfl rfl rfl mk.mp hnone) ?_;rintro _ g3 ⟨rfl,hm3,x3,z3'⟩;have hm3:fy (Value.int .i64) (Value.int .i64) g3 h3.size (jZ cls 0 (of++[t2])):=by rw[sL,Nat.zero_add,hgd2];exact hm3
             have mne:∀{b:Nat}{t:TypeId},dy g2 b t->¬b=h3.size:=fun kt e=>mk.mp.ne kt e.symm
             have ol3:aM g3 h2.size 3 1 (.slice oa of.length oc) of.length (of.map cZ):=aM.ext x3 mk.ol (fun b hb=>mne (mk.I7 b hb));have kz3:=kz.ext x3 (mne kz.ty);have hz2g:=mk.ext.size;refine xd [0,3,4,5,6,7,8,9,10,11,12,13,44,45,46,57,70] rfl ?_;refine G.bV func104 rfl ?_;refine aV 2 rfl ?_;refine xo rfl (av.bC (us:=[_]) underlying44 H.nH rfl rfl (by decide) (by simp[Value.oneCell'])) ?_;rintro _ _ ⟨rfl,rfl⟩;refine xo rfl (av.cH underlying44 H.nH rfl rfl (ol3) rfl rfl (by first|decide|simp[Value.oneCell']) (by omega) (by decide) (by omega)) ?_;rintro v7 g4 ⟨ho4,hx4,hx4',hv4⟩;have mk4:=mk.more (t:=t2) x3 hm3 rfl ho4 hx4 hv4;have kz4:=kz3.ext hx4 (fun e=>(show dy g3 _ 3 from aM.ty ol3 e.symm).ne kz3.ty (by decide) rfl);obtain⟨v7a,v7c,rfl,_⟩:=ho4.open;refine aS 1 [0,3,4,5,6,7,8,9,10,11,12,13,44,45,46,57,70] rfl ?_;refine G.bV func104 rfl ?_;refine cx 2 rfl rfl (ak.dW underlying164 H.aQ rfl rfl b rfl (by omega)) ?_;refine RW.bh rfl rfl rfl (cj H.aQ rfl rfl rfl (kz4.cell (List.getElem?_eq_getElem hblt)) kz4.nf) ?_;rintro _ g6 ⟨rfl,hg6⟩;have ff:=fin g4 g6 _ (of++[t2]) (of.length:Nat) mk4 kz4 hg6 hstep;refine xd [0,3,4,5,6,7,8,9,10,11,12,13,44,45,46,57,70] rfl ?_;refine G.aT ?_;refine G.bV func104 rfl ?_;refine xp rfl (ak.bL rfl rfl ⟨by omega,by omega⟩) ?_;refine aS 1 [0,3,4,5,6,7,8,9,10,11,12,13,44,45,46,57,70] rfl ?_;exact ih2 (b+1,_) _ _ ⟨rfl,rfl,rfl,rfl,rfl,rfl,rfl,rfl,rfl,rfl,trivial⟩ ff (by show 256-(b+1)<256-b;omega)
           · rw[hfind] at hstep;simp only at hstep;refine aS 5 [0,3,4,5,6,7,8,9,10,11,12,13,44,45,46,57] rfl ?_;refine au rfl ?_;refine aY func104 2 [0,3,4,5,6,7,8,9,10,11,12,13,44,45,46,57,70] rfl ?_;refine aO rfl rfl (fun hc=>absurd hc (by simp)) (fun _=>?_);refine aA rfl ?_;refine G.bV func104 rfl ?_;refine cx 2 rfl rfl (ak.dW underlying164 H.aQ rfl rfl b rfl (by omega)) ?_;refine RW.bh rfl rfl rfl (cj H.aQ rfl rfl rfl (kz.cell (List.getElem?_eq_getElem hblt)) kz.nf) ?_;rintro _ g6 ⟨rfl,hg6⟩;have ff:=fin g2 g6 _ of (i0:Nat) mk kz hg6 hstep;refine xd [0,3,4,5,6,7,8,9,10,11,12,13,44,45,46,57,70] rfl ?_;refine G.aT ?_;refine G.bV func104 rfl ?_;refine xp rfl (ak.bL rfl rfl ⟨by omega,by omega⟩) ?_;refine aS 1 [0,3,4,5,6,7,8,9,10,11,12,13,44,45,46,57,70] rfl ?_;exact ih2 (b+1,_) _ _ ⟨rfl,rfl,rfl,rfl,rfl,rfl,rfl,rfl,rfl,rfl,trivial⟩ ff (by show 256-(b+1)<256-b;omega)
     · obtain rfl:b=256:=by omega
       rw[List.drop_of_length_le (by rw[r.len];exact Nat.le_refl _),fF] at hrow;subst hrow;simp only at hcon;have hencr:b8 (jB row)=row.map (Value.int .i64):=by rw[b8,su hrlen]
       rw[Nat.sub_self,List.replicate_zero,List.append_nil,<-hencr] at kz;have hil2:i<of.length:=(List.getElem?_eq_some_iff.1 hcur).1
       have nne:∀{b:Nat}{t:TypeId},dy g2 b t->164≠t->¬(dn vn.ownBlock b\/Array.size g2<=b):=fun kt ht e=>by
        rcases e with e|e
        · exact(mk.Dg _ e.symm).ne kt ht rfl
        · have:=kt.lt;omega
       have hzM:¬(dn vn.ownBlock g.size\/Array.size g2<=g.size):=by
        rintro(e|e)
        · exact hvz e.symm
        · have:=kz.lt;omega
       have hdM:=nne mk.dblk.ty (by decide);have hnx:aM g2 h2.size 164 256 vn next.length (next.flatMap b8):=mk.nx
       have hone:∀u∈b8 (jB row),u.oneCell'=true:=fun u hu=>by simp[b8] at hu;obtain⟨_,_,rfl⟩:=hu;rfl
       have hg2:=mk.ext.size;refine bN rfl rfl ?_;refine au rfl ?_;refine bU (fun b=>dn vn.ownBlock b\/Array.size g2<=b) (fun i=>Nat.blt i 10) (sz:=11) (listed:= #[false,false,false,false,false,false,false,false,false,false,false]) func104 H.mixed rfl rfl rfl ?_;refine bF 0 1 (by kernel_rfl) rfl ?_;refine bF 1 3 (by kernel_rfl) rfl ?_;refine bF 2 7 (by kernel_rfl) rfl ?_;refine bf 3 15 (by kernel_rfl) rfl (fun h' e=>aa (off:=0) underlying160 rfl rfl H.jV rfl) ?_;refine bf 4 31 (by kernel_rfl) rfl (fun h' e=>af H.qi rfl (e.cell hdM (mk.dblk.cell (i:=0) rfl))) ?_;refine bf 5 63 (by kernel_rfl) rfl (fun h' e=>ak.aq H.uI H.jU rfl (e.rowAt hzM kz.row) (by first|rfl|(simp;done)|(simp;omega))) ?_;refine dK 6 127 (by kernel_rfl) rfl (av.gD (cs:=b8 (jB row)) underlying158 H.Cr rfl (lp _) (by decide)) ?_;rintro _ _ ⟨rfl,rfl⟩;refine⟨fun _=>(Ext.push _ _ _),?_⟩;refine dK 7 255 (by kernel_rfl) rfl (av.wJ underlying158 H.Cr rfl rfl hnx rfl (by simp) hone (by simp only[maxLen];omega) (by omega) hg2) ?_;rintro v3 g3 ⟨ho3,hx3,hx3',hv3⟩;refine⟨fun _=>hx3'.mono (fun _ _ k=>.inl k),?_⟩;obtain⟨a3,c3,rfl,_⟩:=ho3.open;refine dK 8 511 (by kernel_rfl) rfl (ak.aX (cB rfl)) ?_;rintro _ hq_ ⟨rfl,hqe_⟩;replace hqe_:=hqe_.symm;subst hqe_;refine⟨fun _=>Ext.refl _ _,?_⟩;refine bf 9 1023 (by kernel_rfl) rfl (fun h' e=>aa (off:=0) underlying160 rfl rfl H.jV rfl) ?_;refine iF 10 2047 (by kernel_rfl) rfl (av.aE H.jV rfl rfl (mk.dblk.ext hx3 (fun e=>hdM (.inl e))) (by first|decide|exact of_decide_eq_true rfl|(simp;done)|(simp;omega)) rfl) ?_;rintro _ g4 ⟨rfl,k4,x4,z4⟩;refine⟨fun hk=>(nomatch hk),?_⟩;have mk4:=mk.HT (r:=jB row) rfl ho3 hx3 k4 x4;obtain⟨vn0,vr0,kd4,_,⟨ra,rn,rc,rfl,hrl0,hrc,hrm,hgetr⟩⟩:=id k2;obtain⟨x,hx⟩:∃x,d.rule[kk]? =some x:=⟨_,List.getElem?_eq_getElem (by omega)⟩
       have hru0:d.ru kk=x:=by unfold cg.ru;rw[List.getD_eq_getElem?_getD,hx];rfl
       obtain⟨b5,o5,cs5,ha5,hO5,hrow5,rfl⟩:=hgetr kk x hx;obtain⟨gg5,c5,hv5,_,_,hcell5,_,_⟩:=mk4.ol.at hcur;have hoa5:oa=some ⟨gg5,0,none⟩:=by cases hv5;rfl
       have rne:∀{b:Nat}{t:TypeId},dy g4 b t->3≠t->¬(dn vr.ownBlock b\/Array.size g4<=b):=fun kt ht e=>by
        rcases e with e|e
        · exact(mk4.B8 _ e.symm).ne kt ht rfl
        · have:=kt.lt;omega
       have hdM4:=rne mk4.dblk.ty (by decide);have hru:aM g4 h2.size 3 1 vr rule.length (rule.map (Value.int .i64)):=mk4.ru;have hg4s:=mk4.ext.size
       have olb:∀{b:Nat},b<h2.size->¬(dn vr.ownBlock b\/Array.size g4<=b):=fun kb e=>by
        rcases e with e|e
        · have:=(aM.lt mk4.ru e.symm).1;omega
        · omega
       have hc4:=kd4.cell (i:=1) rfl;have hd4:=olb (ck hc4);have hc5:cellAt h2 _=some (Value.int .i64 x):=hrow5 0 _ rfl;have hd5:=olb (ck hc5)
       have hd6:¬(dn vr.ownBlock gg5\/Array.size g4<=gg5):=fun e=>by
        rcases e with e|e
        · exact mk4.ne gg5 (by rw[hoa5];rfl) e.symm
        · have:=ck hcell5;simp only at this;omega
       refine aR (by kernel_rfl) ?_;refine xu [0,3,4,5,6,7,8,9,44,45,46] rfl ?_;refine bU (fun b=>dn vr.ownBlock b\/Array.size g4<=b) (fun i=>Nat.blt i 19) (sz:=20) (listed:= #[false,false,false,false,false,false,false,false,false,false,false,false,false,false,false,false,false,false,false,false]) func104 H.mixed rfl rfl rfl ?_;refine bF 0 1 (by kernel_rfl) rfl ?_;refine bF 1 3 (by kernel_rfl) rfl ?_;refine bF 2 7 (by kernel_rfl) rfl ?_;refine bf 3 15 (by kernel_rfl) rfl (fun h' e=>aa (off:=1) underlying160 rfl rfl H.fS rfl) ?_;refine bf 4 31 (by kernel_rfl) rfl (fun h' e=>af H.lB rfl (e.cell hdM4 (mk4.dblk.cell (i:=1) rfl))) ?_;refine bF 5 63 (by kernel_rfl) rfl ?_;refine bF 6 127 (by kernel_rfl) rfl ?_;refine bf 7 255 (by kernel_rfl) rfl (fun h' e=>aa (off:=1) underlying160 rfl rfl H.fS rfl) ?_;refine bf 8 511 (by kernel_rfl) rfl (fun h' e=>af H.lB rfl (e.cell hd4 (mk4.ext.cell (fun k=>k) hc4))) ?_;refine bF 9 1023 (by kernel_rfl) rfl ?_;refine bF 10 2047 (by kernel_rfl) rfl ?_;refine bf 11 4095 (by kernel_rfl) rfl (fun h' e=>ak.aF underlying44 H.aQ rfl rfl i rfl hoa5 (by omega)) ?_;refine bf 12 8191 (by kernel_rfl) rfl (fun h' e=>af H.bD rfl (e.cell hd6 hcell5)) ?_;refine bf 13 16383 (by kernel_rfl) rfl (fun h' e=>ak.aF underlying44 H.aQ rfl rfl kk rfl ha5 (by omega)) ?_;refine bf 14 32767 (by kernel_rfl) rfl (fun h' e=>af H.bD rfl (e.cell hd5 (mk4.ext.cell (fun k=>k) hc5))) ?_;refine dK 15 65535 (by kernel_rfl) rfl (av.bC (us:=[_]) underlying44 H.nH rfl rfl (by decide) (by simp[Value.oneCell'])) ?_;rintro _ _ ⟨rfl,rfl⟩;refine⟨fun _=>by first|exact Ext.push _ _ _|assumption,?_⟩;refine dK 16 131071 (by kernel_rfl) rfl (av.cH underlying44 H.nH rfl rfl (hru) rfl rfl (by first|decide|simp[Value.oneCell']) (by omega) (by decide) (by omega)) ?_;rintro v6 g6 ⟨ho6,hx6,hx6',hv6⟩;refine⟨fun _=>hx6'.mono (fun _ _ k=>.inl k),?_⟩;obtain⟨a6,c6,rfl,_⟩:=ho6.open;refine dK 17 262143 (by kernel_rfl) rfl (ak.aX (cB rfl)) ?_;rintro _ hq_ ⟨rfl,hqe_⟩;replace hqe_:=hqe_.symm;subst hqe_;refine⟨fun _=>Ext.refl _ _,?_⟩;refine bf 18 524287 (by kernel_rfl) rfl (fun h' e=>aa (off:=1) underlying160 rfl rfl H.fS rfl) ?_;refine iF 19 1048575 (by kernel_rfl) rfl (av.aE H.fS rfl rfl (mk4.dblk.ext hx6 (fun e=>hdM4 (.inl e))) (by first|decide|exact of_decide_eq_true rfl|(simp;done)|(simp;omega)) rfl) ?_;rintro _ g7 ⟨rfl,k7,x7,z7⟩;refine⟨fun hk=>(nomatch hk),?_⟩;have mk7:=mk4.HS (x:=x) rfl ho6 hx6 hv6 k7 x7;refine aR (by kernel_rfl) ?_;refine xu [0,3,4,5,6,7,8,9,44,45,46] rfl ?_;refine G.aT ?_;refine G.bV func104 rfl ?_;refine cx 1 rfl rfl (ak.bL rfl rfl ⟨by omega,by omega⟩) ?_;refine aS 1 [0,3,4,5,6,7,8,9,44,45,46] rfl ?_;exact ih (i+1,_) _ _ ⟨rfl,rfl,rfl,rfl,rfl,rfl,rfl,trivial⟩ ⟨_,_,of,next++[jB row],rule++[x],mk7,hil2,hok2,⟨by simp[hnl],by simp[hrl]⟩,by rw[<-hru0,show d.next.length+1-(i+1)=n by omega];exact hcon⟩ (by show d.next.length+1-(i+1)<d.next.length+1-i;omega)
   · obtain rfl:i=of.length:=by omega
     obtain⟨n,hnn⟩:∃n,d.next.length+1-of.length=n+1:=⟨d.next.length-of.length,by omega⟩
     rw[hnn,zq,List.getElem?_eq_none (Nat.le_refl _)] at hcon;simp only at hcon;refine bN rfl rfl ?_;refine aY func104 2 [0,2,3,4,5,6,7,8,32] rfl ?_;refine aK func104 rfl rfl ?_;have hz02:=(e1.trans e2).size;refine⟨_,rfl,⟨h2.size,rfl,?_⟩,(e1.trans e2).trans mk.ext⟩;rw[<-hcon];exact⟨vn,vr,by omega,mk.dblk,rW.read mk.nx (fun b hb k=>by omega),cN.read (h1:=fun _=>rfl) mk.ru (fun b hb k=>by omega)⟩
end
end Go.Proofs.YtiigijehmmcfgaaGreatDoor
namespace Go.Proofs.YtiigijehmmcfgaaGreatDoor
open Go
def iP (B:Nat) (ss:List bR):Prop:=∀x∈ss,x.rule<=B
theorem iP.snoc {B:Nat}{ss:List bR}(k:iP B ss){x:bR}(h:x.rule<=B):iP B (ss++[x]):=fun y hy=>by
 rcases List.mem_append.1 hy with e|e
 · exact k y e
 · have:y=x:=by simpa using e
   rw[this];exact h
theorem iP.set {B:Nat}{ss:List bR}(k:iP B ss){x:bR}(h:x.rule<=B) (i:Nat):iP B (ss.set i x):=fun y hy=>by
 rcases List.mem_or_eq_of_mem_set hy with e|e
 · exact k y e
 · rw[e];exact h
mutual
theorem xH (B:Nat):∀(x:Nd) (ss:List bR) (to:Nat),iP B ss->iP B (lay x ss to).1
 |.mk k s kids,ss,to,h=>by
  rw[lay];split
  · exact h.snoc (Nat.zero_le _)
  · split
    · exact wk B kids ss to h
    · split
      · exact(wm B kids ss to h).snoc (Nat.zero_le _)
      · split
        · exact(wj B kids ss to h).snoc (Nat.zero_le _)
        · split
          · exact(wj B kids _ _ (h.snoc (Nat.zero_le _))).set (Nat.zero_le _) _
          · exact h
theorem wk (B:Nat):∀(l:List Nd) (ss:List bR) (to:Nat),iP B ss->iP B (bP l ss to).1
 | [],ss,to,h=>by rw[bP];exact h
 |x::r,ss,to,h=>by rw[bP];exact xH B x _ _ (wk B r ss to h)
theorem wm (B:Nat):∀(l:List Nd) (ss:List bR) (to:Nat),iP B ss->iP B (bA l ss to).1
 | [],ss,to,h=>by rw[bA];exact h
 |x::r,ss,to,h=>by rw[bA];exact wm B r _ to (xH B x ss to h)
theorem wj (B:Nat):∀(l:List Nd) (ss:List bR) (to:Nat),iP B ss->iP B (cC l ss to).1
 | [],ss,to,h=>by rw[cC];exact h
 |x::r,ss,to,h=>by rw[cC];exact xH B x ss to h
end
theorem zy (B:Nat):∀(i:Nat) (rules:List By) (ss:List bR) (t:List Nat) (ss':List bR) (t':List Nat),i+rules.length<=B->iP B ss->kq i rules ss t= .inr (ss',t')->iP B ss'
 |i,[],ss,t,ss',t',_,h,hm=>by
  rw[kq] at hm;cases hm;exact h
 |i,s::r,ss,t,ss',t',hB,h,hm=>by
  rw[List.length_cons] at hB;rw[kq] at hm;split at hm
  · cases hm
  · exact zy B (i+1) r _ _ ss' t' (by omega) (xH B _ _ _ (h.snoc (by show i<=B;omega))) hm
theorem EV {rules:List By}{ss:List bR}{st:Nat}(h:eU rules= .inr (ss,st)):∀x∈ss,x.rule<=1000000:=by
 unfold eU at h;split at h
 · cases h
 · rename_i hn;split at h
   · cases h
   · rename_i ss1 t1 hg;split at h
     · cases h
     · cases h;have:=zy 64 0 rules [] [] ss1 t1 (by omega) (fun x hx=>(by cases hx)) hg;intro x hx;have:=(this.snoc (x:=⟨0,0,t1,0⟩) (Nat.zero_le _)) x hx;omega
end Go.Proofs.YtiigijehmmcfgaaGreatDoor
namespace Go.Proofs.YtiigijehmmcfgaaGreatDoor
open Go Go.Lw
set_option maxRecDepth 20000
def lu (rules:List By):Int ⊕ cg:=match eU rules with
 |.inl e=>.inl e
 |.inr (ss,st)=>gf ss st
theorem nC {rules:List By}{d:cg}(h:lu rules= .inr d):d.Ok/\0<d.next.length:=by
 unfold lu at h;split at h
 · cases h
 · rename_i ss st hm;refine⟨DL h (EV hm),?_⟩;obtain⟨_,L,_,h2,h3⟩:=iV h;omega
theorem yE {rules:List By}{d:cg}(h:lu rules= .inr d) (s:By) (a:Int):((dx d s a).1,(dx d s a).2.1)=xy rules s a:=by
 have hd:=(nC h).2;unfold lu at h;split at h
 · cases h
 · rename_i ss st hm;have hst:=(fX hm).stl;unfold xy Bb dx;rw[hm];simp only
   by_cases ha:a<0\/(s.length:Int)<a
   · rw[if_pos (.inr ha),if_pos (.inr ha)]
   · rw[if_neg (by omega),if_neg (by omega)];exact qc h (by omega) _
end Go.Proofs.YtiigijehmmcfgaaGreatDoor
