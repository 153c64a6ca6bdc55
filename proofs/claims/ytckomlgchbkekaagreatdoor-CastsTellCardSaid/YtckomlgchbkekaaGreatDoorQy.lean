/- What the proof of the statement leans on (part 25). -/
import Derived.LaidLaws
import Derived.LaidMore
import Derived.OpenShut
import Derived.Stop.Joined
import Derived.ChangeMaps5
import Derived.Lay
import Derived.Test.YtckomlgchbkekaaGreatDoorQx

namespace Go.Proofs.YtckomlgchbkekaaGreatDoor
open Go.Proofs.Tryz
open Go Go.Lw Go.ChangeShapes Go.WideShapes Go.ChangeAt Go.RowKit
set_option maxRecDepth 20000
theorem own:ownKnob Tryz.prog.godebug=none:=by kernel_rfl
theorem laidOut:laidOutB Tryz.prog=true:=by kernel_rfl
theorem Fy (c:UInt8):((jG (c.toNat:Int) [((42:Int),(4:Int)),(43,5),(63,6)]).map (Value.int .i64)).getD (Value.int .i64 0)=Value.int .i64 (cG c:Nat):=by
 have hc:∀n:Nat,n<256->(c.toNat=n↔c=UInt8.ofNat n):=fun n hn=>by
  rw[<-UInt8.toNat_inj];simp;rw[Nat.mod_eq_of_lt hn]
 simp only[jG,cG]
 by_cases h1:c=42
 · subst h1;rfl
 by_cases h2:c=43
 · subst h2;rfl
 by_cases h3:c=63
 · subst h3;rfl
 have n1:¬(c.toNat:Int)=42:=fun e=>h1 ((hc 42 (by decide)).1 (by omega))
 have n2:¬(c.toNat:Int)=43:=fun e=>h2 ((hc 43 (by decide)).1 (by omega))
 have n3:¬(c.toNat:Int)=63:=fun e=>h3 ((hc 63 (by decide)).1 (by omega))
 simp[h1,h2,h3,n1,n2,n3]
theorem Gb {W:World}{g t:Nat}{cs:Array Value}{fuel:Nat}{pl:List MemPlace}{sp:Nat->Bool}{held:Bool}{enc:TypeId×Value->Unit}(hg:Tryz.prog.globalNamed "limner/regs.signs" =some g) (ht:(Tryz.prog.globals[g]?).map (·.type)=some t) (hv:W.var? Tryz.prog "limner/regs.signs" =some cs)
 (hd:DataW.trod enc Tryz.prog W 0 sp held fuel t cs.toList=some (Rows.laid_limner_regs_signs,pl)):Sg W.heap W.heap.size:=by
 have gT:Tryz.prog.globalNamed "limner/regs.signs" =some 14:=by kernel_rfl
 have tT:(Tryz.prog.globals[14]?).map (·.type)=some 450:=by kernel_rfl
 obtain rfl:=Option.some.inj (gT.symm.trans hg);obtain rfl:=Option.some.inj (tT.symm.trans ht);obtain⟨b,hcs,l,hm,hp⟩:=GY (kk:=.u8) (kd:=.i64) underlying450 underlying5 underlying3 hd
 have hcell:W.cell? ⟨14,0,none⟩=some (.map (some b)):=by
  have:=World.var?_cell hg hv 0;obtain⟨l1⟩:=cs;simp only at hcs;subst hcs;simpa using this
 have hc2:cellAt W.heap ⟨14,0,none⟩=some (.map (some b)):=(rq W).cell _▸hcell
 have hperm:l.Perm [((42:Int),(4:Int)),(43,5),(63,6)]:=by
  have hinj:∀p q:Int×Int,((.int .u8 p.1,.lit (.int .i64 p.2)):Lit×DataW Unit)=(.int .u8 q.1,.lit (.int .i64 q.2))->p=q:=by
   intro p q h;simp only[Prod.mk.injEq,Lit.int.injEq,DataW.lit.injEq,true_and] at h;exact Prod.ext h.1 h.2
  have hp':(l.map fun p=>((.int .u8 p.1,.lit (.int .i64 p.2)):Lit×DataW Unit)).Perm ([((42:Int),(4:Int)),(43,5),(63,6)].map fun p=>((.int .u8 p.1,.lit (.int .i64 p.2)):Lit×DataW Unit)):=hp
  have hback:∀m:List (Int×Int),(m.map fun p=>((.int .u8 p.1,.lit (.int .i64 p.2)):Lit×DataW Unit)).map (fun y=>match y with|(.int _ a,.lit (.int _ b))=>(a,b)|_=>((0:Int),(0:Int)))=m:=by
   intro m;rw[List.map_map];have:((fun y=>match y with|(.int _ a,.lit (.int _ b))=>(a,b)|_=>((0:Int),(0:Int)))∘fun p=>((.int .u8 p.1,.lit (.int .i64 p.2)):Lit×DataW Unit))=id:=by funext p;rfl
   rw[this,List.map_id]
  have:=hp'.map (fun y=>match y with|(.int _ a,.lit (.int _ b))=>(a,b)|_=>((0:Int),(0:Int)))
  rwa [hback,hback] at this
 refine⟨b,ck hc2,hm.lt,hc2,l,hm,fun c=>?_⟩;rw[HR hperm (by decide)];exact Fy c
end Go.Proofs.YtckomlgchbkekaaGreatDoor
namespace Go.Proofs.YtckomlgchbkekaaGreatDoor
open Go.Proofs.Tryz
open Go Go.Lw
set_option maxRecDepth 20000 set_option maxHeartbeats 4000000
section
variable {h:ai}{b:Nat}{v:Value}{l:List UInt8}
theorem bInfo:∃j,Tryz.prog.info? 63=some j/\j.size≠0:=⟨_,rfl,by decide⟩
theorem FT:∃i,Tryz.prog.info? 5=some i/\i.zero=some (.int .u8 0)/\i.size=1/\i.bytes=1:=⟨_,rfl,rfl,rfl,rfl⟩
theorem NI:liesAt Tryz.prog Tryz.prog.depth 63 (2 / Tryz.prog.cellsOf 63) 0 63 1=true:=by kernel_rfl
theorem Du:Tryz.prog.cellsOf 5=1:=by kernel_rfl
theorem qE (hb:az h b 63 [.pointer none,v]) :
 aj Tryz.prog 47 #[.pointer (some ⟨b,0,none⟩)] h (aN fun _ h'=>az h' b 63 [.pointer (some ⟨b,0,none⟩),v]/\Ext (fun i=>i=b) h h'/\h'.size=h.size):=by
 obtain⟨j,hj,hj0⟩:=bInfo;refine bf ?_;refine aa ?_;refine xp rfl (aA rfl (hb.cell (i:=0) rfl)) ?_;refine xp rfl (an.gp underlying60 rfl rfl) ?_;refine aa ?_;refine fH rfl (by decide) ?_;refine bU ?_
 iterate 2 refine aU ?_
 refine xp rfl (an.zO underlying60 underlying142 hj hj0 hb (by simp) rfl) ?_;refine xp rfl (an.AB func77 (by decide +kernel) (by kernel_rfl) (by kernel_rfl) (by kernel_rfl) rfl) ?_;refine xp rfl (an.s9 underlying142 underlying60 hj hb NI rfl) ?_;refine aa ?_;refine aY rfl (b7 rfl rfl hb) ?_;rintro _ h1 ⟨rfl,hb1,hx1,hs1⟩;refine aa ?_;refine gE ?_;exact⟨_,rfl,hb1,hx1,hs1⟩
theorem tK (hb:az h b 63 [.pointer (some ⟨b,0,none⟩),v]) :
 aj Tryz.prog 47 #[.pointer (some ⟨b,0,none⟩)] h (aN fun _ h'=>az h' b 63 [.pointer (some ⟨b,0,none⟩),v]/\Ext (fun i=>i=b) h h'/\h'.size=h.size):=by
 obtain⟨j,hj,hj0⟩:=bInfo;refine bf ?_;refine aa ?_;refine xp rfl (aA rfl (hb.cell (i:=0) rfl)) ?_;refine xp rfl (an.gp underlying60 rfl rfl) ?_;refine aa ?_;refine bV rfl Bool.false_ne_true ?_;refine aa ?_;refine xp rfl (aA rfl (hb.cell (i:=0) rfl)) ?_;refine aU ?_;refine xp rfl (an.sw underlying60 hj rfl rfl) ?_;refine aa ?_;refine bV rfl Bool.false_ne_true ?_;refine aa ?_;refine gE ?_;exact⟨_,rfl,hb,av _ _,rfl⟩
theorem kT {p:Value}(hb:az h b 63 [p,v]) (hp:p= .pointer none\/p= .pointer (some ⟨b,0,none⟩)) :
 aj Tryz.prog 47 #[.pointer (some ⟨b,0,none⟩)] h (aN fun _ h'=>az h' b 63 [.pointer (some ⟨b,0,none⟩),v]/\Ext (fun i=>i=b) h h'/\h'.size=h.size):=by
 rcases hp with rfl|rfl
 · exact qE hb
 · exact tK hb
theorem cO (s:ByteArray) (hb:iL h b 63 5 l) (hl:l.length+s.size<=140737488355328) :
 aj Tryz.prog 19 #[.pointer (some ⟨b,0,none⟩),.string s] h (aN fun r h'=>r= .tuple #[.int .i64 s.size,.nilIface]/\iL h' b 63 5 (l++s.data.toList)/\Ext (fun i=>b<=i) h h'):=by
 obtain⟨i,hi,hi0,hi1,hi2⟩:=FT;obtain⟨p,v,hk,hp,hv⟩:=hb;have hlt:=hk.lt;refine bf ?_;refine aa ?_;refine xo rfl (aG rfl (kT hk hp)) ?_;rintro _ h1 ⟨hk1,hx1,hs1⟩;refine aa ?_;have hv1:FL h1 (b+1) 5 v l:=ay.ext hx1 hv (fun g hg=>by have:=gU hv g hg.symm;omega);refine xp rfl (aA rfl (hk1.cell (i:=1) rfl)) ?_;refine aa ?_;refine xo rfl (aH.wB underlying61 underlying9 hi hi0 hi1 hi2 rfl rfl hv1 hl (by omega)) ?_;rintro v2 h2 ⟨ho2,hx2⟩;refine aa ?_;have hk2:=hk1.ext hx2 (fun hm=>by have:=gU hv1 b hm;omega);obtain⟨oa2,c2,rfl,-⟩:=ay.open ho2;refine aY rfl (b7 rfl rfl hk2) ?_;rintro _ h3 ⟨rfl,hk3,hx3,hs3⟩;refine aa ?_;refine aW ?_;have ho3:FL h3 (b+1) 5 _ (l++s.data.toList):=ay.ext hx3 ho2 (fun g hg=>by have:=gU ho2 g hg.symm;omega);exact⟨_,rfl,rfl,⟨_,_,hk3,.inr rfl,ho3⟩,((hx1.mono (fun _ _ k=>by show b<=_;omega)).trans (hx2.mono (fun g _ k=>by have:=gU hv1 g k;show b<=g;omega))).trans (hx3.mono (fun _ _ k=>by show b<=_;omega))⟩
theorem iL.af {h h':ai}{b:Nat}{l:List UInt8}(k:iL h b 63 5 l) (e:ah h h'):iL h' b 63 5 l:=by
 obtain⟨p,v,hk,hp,hv⟩:=k;exact⟨p,v,hk.af e,hp,bF.af hv e⟩
theorem jh (hb:iL h b 63 5 l) (hl:l.length<=140737488355328) :
 aj Tryz.prog 22 #[.pointer (some ⟨b,0,none⟩)] h (aN fun r h'=>r= .string ⟨l.toArray⟩/\Ext (fun i=>b<=i) h h'):=by
 obtain⟨p,v,hk,hp,hv⟩:=hb;obtain⟨oa,c,rfl,hw⟩:=ay.open hv;have hc1:=hk.cell (i:=1) rfl;refine bf ?_;refine aa ?_;refine uq 12 (fun i=>b+1<=i) (fun i=>Nat.blt i 12) ?_;refine ax 0 ?_;refine ax 1 ?_;refine ax 2 ?_;refine aS 3 rfl (fun h' e=>aA rfl (e.cell (by show ¬b+1<=b;omega) hc1)) ?_;refine ax 5 ?_;refine ax 6 ?_;refine ax 7 ?_;refine aS 8 rfl (fun h' e=>aA rfl (e.cell (by show ¬b+1<=b;omega) hc1)) ?_;refine ax 9 ?_;refine ct 4 rfl (aH.vJ underlying104 rfl hv) ?_;rintro u h1 ⟨⟨q,rfl,hs⟩,he⟩;refine⟨fun _=>he.of,?_⟩;refine ct 10 rfl (jE underlying104 Du rfl rfl hs hl) ?_;rintro _ h2 ⟨rfl,hx2⟩;refine⟨fun _=>hx2,?_⟩;refine ax 11 ?_;refine dP ?_;refine aW ?_;exact⟨_,rfl,rfl,(ah.of he).trans (hx2.mono (fun g _ k=>by have:b+1<=g:=k;show b<=g;omega))⟩
def kY (h:ai):Prop:=zH Tryz.prog h "internal/strconv.uint64pow10" =some (Lib.pow10Tab.map fun z=>Value.int .u64 z).toArray
theorem kY.af {h':ai}(k:kY h) (e:ah h h'):kY h':=BY e k
theorem fq (hg:kY h) (n:Int) (hn : -9223372036854775808<=n/\n<=9223372036854775807) :
 aj Tryz.prog 20 #[.int .i64 n] h (aN fun r h'=>r= .string (bs (Lib.itoa n))/\ah h h'):=by
 refine aj.qO fun w hw=>?_
 subst hw;refine(Tryz.strconv_Itoa n hn.1 hn.2 w hg).mono ?_;rintro e w' ⟨rfl,k,os,rfl⟩;refine⟨_,rfl,⟨rfl,?_⟩,rfl,rfl,rfl⟩;refine⟨by simp[Go.Sort.grow],fun b hb _=>?_⟩;simp[Go.Sort.grow,Array.getElem?_append_left hb]
theorem qA (c:UInt8) (hb:iL h b 63 5 l) (hl:l.length<=900000000) :
 aj Tryz.prog 230 #[.pointer (some ⟨b,0,none⟩),.int .u8 (c.toNat:Nat)] h (aN fun _ h'=>iL h' b 63 5 (l++[c])/\Ext (fun g=>b<=g) h h'):=by
 obtain⟨p,v,hk,hp,hv⟩:=hb;have hlt:=hk.lt;refine bf ?_;refine aa ?_;refine xo rfl (aG rfl (kT hk hp)) ?_;rintro _ h1 ⟨hk1,hx1,hs1⟩;refine aa ?_;have hv1:FL h1 (b+1) 5 v l:=ay.ext hx1 hv (fun g hg=>by have:=gU hv g hg.symm;omega);refine xp rfl (aA rfl (hk1.cell (i:=1) rfl)) ?_;refine aa ?_;refine xo rfl (kI [_]) ?_;rintro _ _ ⟨rfl,rfl⟩;refine xo rfl (Dr rfl rfl hv1 rfl rfl) ?_;rintro v2 h2 ⟨ho2,hx2,hx2',hv2⟩;have hk2:=hk1.ext hx2 (fun hm=>by have:=gU hv1 b hm;omega);have ho2':FL h2 (b+1) 5 v2 (l++[c]):=bF.of (ys:=[c]) ho2 rfl rfl rfl;obtain⟨oa2,c2,rfl,-⟩:=ho2.open;refine aa ?_;refine aY rfl (b7 rfl rfl hk2) ?_;rintro _ h3 ⟨rfl,hk3,hx3,hs3⟩;refine aa ?_;refine aW ?_;exact⟨_,rfl,⟨_,_,hk3,.inr rfl,ay.ext hx3 ho2' (fun g hg=>by have:=gU ho2' g hg.symm;omega)⟩,((hx1.mono (fun _ _ k=>by show b<=_;omega)).trans (hx2.mono (fun g _ k=>by have:=gU hv1 g k;show b<=g;omega))).trans (hx3.mono (fun _ _ k=>by show b<=_;omega))⟩
theorem oY {O:Nat->Prop}(hg:kY h){l:List Int}(hv:aR (.int .i64) h O v l) (hl:l.length<=1000000) (hb:∀n∈l,-9223372036854775808<=n/\n<=9223372036854775807) :
 aj Tryz.prog 212 #[v] h (aN fun r h'=>r= .string (bs (fD l))/\ah h h'):=by
 obtain⟨oa,n,c,rfl,hsl⟩:=hv.open;have hn:=hsl.len;refine bf ?_;refine aa ?_;refine xo rfl (cC) ?_;rintro _ h0 ⟨rfl,hk0,he0,hs0⟩;refine aa ?_;have hb0:iL h0 h.size 63 5 []:=nF hk0;refine eR (σ:=Nat) (fun i=>[(8,.int .i64 (i:Nat))]) (fun i h'=>i<=n/\ah h h'/\iL h' h.size 63 5 (fD (l.take i))/\h0.size<=h'.size) (fun i=>n-i) (0) ⟨Nat.zero_le _,he0,hb0,Nat.le_refl _⟩ rfl ?_;rintro i g ⟨hi,eg,hbg,hgz⟩ ih;have hlen:=xZ (l.take i) (fun x hx=>hb x (List.mem_of_mem_take hx));rw[List.length_take] at hlen;refine aa ?_;refine aQ (fun hlt=>?_) (fun hlt=>?_)
 · obtain⟨b1,o1,x,hoa,_,hx,hcx⟩:=(hsl.mv (Mv.af eg)).at (show i<n by omega);have hbx:=hb x (List.mem_of_getElem? hx);have hil:=Lib.itoa_length_le x hbx.1 hbx.2;have hbsz:=aC (Lib.itoa x);have hbl:(bs (Lib.itoa x)).data.toList=Lib.itoa x:=by simp[bs]
   have hnx:fD (l.take (i+1))=fD (l.take i)++(bs (Lib.itoa x)).data.toList++[32]:=by rw[List.take_add_one,hx,Option.toList_some,GZ,hbl]
   iterate 4 refine aI ?_
   refine bU ?_;refine xp rfl (bT rfl rfl i rfl hoa) ?_;refine xp rfl (aA rfl hcx) ?_;refine aa ?_;refine xo rfl (aG rfl (fq (hg.af eg) x hbx)) ?_;rintro _ g1 ⟨rfl,e1⟩;refine xo rfl (aG rfl (cO (bs (Lib.itoa x)) (iL.af hbg e1) (by omega))) ?_;rintro _ g2 ⟨rfl,hb2,hx2⟩;refine aa ?_;refine xo rfl (aG rfl (qA 32 hb2 (by rw[List.length_append,hbl];omega))) ?_;rintro _ g3 ⟨hb3,hx3⟩;refine aa ?_;have z1:=e1.size;have z2:=hx2.size;have z3:=hx3.size;rw[<-hnx] at hb3
   have e3:ah h g3:=⟨by have:=eg.size;omega,fun b hb k=>by
    rw[hx3.block b (by have:=eg.size;omega) (by show ¬_<=_;omega),hx2.block b (by have:=eg.size;omega) (by show ¬_<=_;omega),e1.block b (by have:=eg.size;omega) (fun k=>k)];exact eg.block b hb k⟩
   exact ih (i+1) ⟨by omega,e3,hb3,by omega⟩
 · have hie:l.take i=l:=List.take_of_length_le (by omega);rw[hie] at hbg;have hkl:=xZ l hb;refine aa ?_;refine xo rfl (aG rfl (jh hbg (by omega))) ?_;rintro _ g1 ⟨rfl,hx1⟩;refine aa ?_;refine aW ?_;exact⟨_,rfl,rfl,⟨by have:=hx1.size;have:=eg.size;omega,fun b hb k=>by rw[hx1.block b (by have:=eg.size;omega) (by show ¬_<=_;omega)];exact eg.block b hb k⟩⟩
def bH (r:Row):List Value:=r.v.map (.int .i64)
@[simp] theorem j7 (r:Row):(bH r).length=256:=by simp[bH,r.len]
def D2:fS Row:=.record 256 (by decide) bH j7 (fun r v hv=>by simp[bH] at hv;obtain⟨_,_,rfl⟩:=hv;rfl)
def qy (h:ai) (db:Nat) (d:gY):Prop :=
 ∃vn vr,az h db 335 [vn,vr]/\aR D2 h (fun _=>False) vn d.next/\aR (.int .i64) h (fun _=>False) vr d.rule
theorem qy.af {h h':ai}{db:Nat}{d:gY}(k:qy h db d) (e:ah h h'):qy h' db d:=by
 obtain⟨vn,vr,h1,h2,h3⟩:=k;exact⟨vn,vr,h1.af e,h2.mv (Mv.af e),h3.mv (Mv.af e)⟩
theorem Hu {db:Nat}{d:gY}(k:qy h db d):aj Tryz.prog 215 #[.pointer (some ⟨db,0,none⟩)] h (aN fun r h'=>r= .bool (decide (d.next.length=0))/\h'=h):=by
 obtain⟨vn,vr,hk,⟨na,nn,nc,rfl,hnl,_⟩,h2⟩:=k;refine bf ?_;refine aI ?_;refine bU ?_;refine aU ?_;refine bJ ?_;refine aI ?_;refine dM [(2,.bool (decide (d.next.length=0)))] rfl ?_ ?_
 · refine aU ?_;refine xp rfl (an.gp underlying247 rfl rfl) ?_;refine aa ?_;refine RW.aO (d:=5) (b':=false) rfl (rfl) ?_;refine aa ?_;refine xp rfl (aA rfl (hk.cell (i:=0) rfl)) ?_;refine aa ?_;exact aL rfl ⟨ak rfl (by simp only[decide_eq_decide];omega),sb rfl⟩
 · refine aW ?_;exact⟨_,rfl,rfl,rfl⟩
end
end Go.Proofs.YtckomlgchbkekaaGreatDoor
namespace Go.Proofs.YtckomlgchbkekaaGreatDoor
open Go Go.Lw
set_option maxRecDepth 20000
def Oe (h:ai) (O:Nat->Prop) (cs:List Value) (x:List Nat):Prop:=∃v,cs=[v]/\aR gQ h O v x
def CQ:fS (List Nat):=⟨1,by decide,Oe,fun h=>by obtain⟨v,rfl,_⟩:=h;rfl,fun h=>by
 obtain⟨v,rfl,hv⟩:=h;intro u hu;simp at hu;subst hu;exact aR.J8 hv,fun h m=>by
 obtain⟨v,hc,hv⟩:=h;exact⟨v,hc,hv.mv m⟩⟩
def lC:Nat->List (List Nat)->List (ByteArray×Int)
 |_,[]=>[]
 |i,x::r=>(bs (yb x),(i:Int))::lC (i+1) r
theorem vL:∀(ls:List (List Nat)) (i:Nat) (l:List Nat),lC i (ls++[l])=lC i ls++[(bs (yb l),((i+ls.length:Nat):Int))]
 | [],i,l=>by simp[lC]
 |x::r,i,l=>by
  simp only[List.cons_append,lC];rw[vL r (i+1) l,List.length_cons,show i+1+r.length=i+(r.length+1) by omega]
theorem ud:∀(ls:List (List Nat)) (i:Nat) (l:List Nat),jG (bs (yb l)) (lC i ls)=(mP i ls l).map fun j=>(j:Int)
 | [],i,l=>rfl
 |x::r,i,l=>by
  rw[lC,jG,mP]
  by_cases h:l=x
  · subst h;rw[if_pos rfl,if_pos rfl];rfl
  · have hk:¬bs (yb l)=bs (yb x):=fun e=>h (G0 (jg e))
    rw[if_neg hk,if_neg h];exact ud r (i+1) l
theorem BJ {h:ai}{O:Nat->Prop}{v:Value}{l:List Nat}(k:aR gQ h O v l):aR (.int .i64) h O v (l.map Int.ofNat):=by
 obtain⟨oa,n,c,rfl,hl,hnc,hc,hg⟩:=k;refine⟨oa,n,c,rfl,by simpa using hl,hnc,hc,fun i x hx=>?_⟩;rw[List.getElem?_map] at hx;cases hs:l[i]? with
 |none=>rw[hs] at hx;cases hx
 |some s =>
  rw[hs] at hx;simp only[Option.map_some,Option.some.injEq] at hx;subst hx;obtain⟨b,o,cs,h1,h2,h3,h4⟩:=hg i s hs;exact⟨b,o,cs,h1,h2,h3,h4⟩
structure gZ (h0 h:ai) (C:Nat->Prop) (db mb:Nat) (vl vn vr:Value) (lists:List (List Nat)) (next:List Row) (rule:List Int):Prop where
 ext:ah h0 h
 dblk:az h db 335 [vn,vr]
 nx:eP 256 bH h h0.size 339 vn next
 ru:bF (Value.int .i64) h h0.size 3 vr rule
 mp:eJ Value.string (Value.int .i64) h mb (lC 0 lists)
 ls:eY CQ (fun b=>¬C b) h h0.size 117 vl lists
 cty:∀b,C b->cq h b 3
 cr:∀b,vr.ownBlock=some b->¬C b
 dge:h0.size<=db
 mge:h0.size<=mb
section
variable {h0 h:ai}{C:Nat->Prop}{db mb:Nat}{vl vn vr:Value}{lists:List (List Nat)}{next:List Row}{rule:List Int}
theorem gZ.GO (k:gZ h0 h C db mb vl vn vr lists next rule):∀b,vl.ownBlock=some b->cq h b 117:=fun b hb=>by
 obtain⟨css,_,h2,_⟩:=k.ls;exact h2.ty hb
theorem gZ.EN (k:gZ h0 h C db mb vl vn vr lists next rule):∀b,vn.ownBlock=some b->cq h b 339:=fun _ hb=>ay.ty k.nx hb
theorem gZ.DE (k:gZ h0 h C db mb vl vn vr lists next rule):∀b,vr.ownBlock=some b->cq h b 3:=fun _ hb=>ay.ty k.ru hb
theorem gZ.Qg (k:gZ h0 h C db mb vl vn vr lists next rule):∀b,vl.ownBlock=some b->h0.size<=b:=fun b hb=>by
 obtain⟨css,_,h2,_⟩:=k.ls;exact(h2.lt hb).1
theorem gZ.af {h':ai}(k:gZ h0 h C db mb vl vn vr lists next rule) (e:ah h h'):gZ h0 h' C db mb vl vn vr lists next rule :=
 ⟨k.ext.trans e,k.dblk.af e,eP.af k.nx e,bF.af k.ru e,k.mp.ext e (fun k=>k),k.ls.af e,fun b hb=>(k.cty b hb).ext e (fun k=>k),k.cr,k.dge,k.mge⟩
theorem gZ.put {h':ai}{x:Nat}(k:gZ h0 h C db mb vl vn vr lists next rule) (e:Ext (fun b=>b=x) h h') (hx:cq h x 339) (hn:vn.ownBlock≠some x) (hge:h0.size<=x):gZ h0 h' C db mb vl vn vr lists next rule:=by
 have hd:¬db=x:=k.dblk.ty.ne hx (by decide);have hm:¬mb=x:=k.mp.ne hx;have hl:∀b,vl.ownBlock=some b->¬b=x:=fun b hb=>(k.GO b hb).ne hx (by decide)
 have hr:∀b,vr.ownBlock=some b->¬b=x:=fun b hb=>(k.DE b hb).ne hx (by decide)
 have hc:∀b,C b->¬b=x:=fun b hb=>(k.cty b hb).ne hx (by decide)
 exact⟨ah.only k.ext e hge,k.dblk.ext e hd,ay.ext e k.nx (fun b hb hbx=>hn (by subst hbx;exact hb)),ay.ext e k.ru hr,k.mp.ext e hm,
  k.ls.EO e hl (fun b _ hb hC=>hc b hC hb) (fun _ _ k=>k),fun b hb=>(k.cty b hb).ext e (hc b hb),k.cr,k.dge,k.mge⟩
end
section
variable {h0 h:ai}{C:Nat->Prop}{db mb:Nat}{vl vn vr:Value}{lists:List (List Nat)}{next:List Row}{rule:List Int}
theorem gZ.KK {g3 g4:ai}{v3:Value}{r:Row}{n:Nat}(k:gZ h0 h C db mb vl vn vr lists next rule) (hn:n=next.length) (ho:ay g3 h0.size 339 256 v3 (n+1) (next.flatMap bH++bH r)) (hx:Ext (b8 vn.ownBlock) h g3) (hd:az g4 db 335 [v3,vr]) (x4:Ext (fun b=>b=db) g3 g4) :
 gZ h0 g4 C db mb vl v3 vr lists (next++[r]) rule:=by
 have nne:∀{b:Nat}{t:TypeId},cq h b t->339≠t->¬b8 vn.ownBlock b:=fun kt ht e=>(k.EN _ e.symm).ne kt ht rfl
 have d3:=k.dblk.ext hx (nne k.dblk.ty (by decide));have dne:∀{b:Nat}{t:TypeId},cq g3 b t->335≠t->¬b=db:=fun kt ht e=>by subst e;exact d3.ty.ne kt ht rfl
 have mne:¬b8 vn.ownBlock mb:=fun e=>k.mp.ne (k.EN _ e.symm) rfl
 have hm3:=k.mp.ext hx mne;have hdlt:=k.dblk.lt;have ru3:=ay.ext hx k.ru (fun b hb=>nne (k.DE b hb) (by decide));have ls3:eY CQ (fun b=>¬C b) g3 h0.size 117 vl lists:=k.ls.EO hx (fun b hb=>nne (k.GO b hb) (by decide)) (fun b _ hb hC=>nne (k.cty b hC) (by decide) hb) (fun _ _ k=>k);have lty3:∀b,vl.ownBlock=some b->cq g3 b 117:=fun b hb=>(k.GO b hb).ext hx (nne (k.GO b hb) (by decide))
 have cty3:∀b,C b->cq g3 b 3:=fun b hb=>(k.cty b hb).ext hx (nne (k.cty b hb) (by decide))
 refine⟨⟨by have:=k.ext.size;have:=hx.size;have:=x4.size;omega,fun b hb kk=>?_⟩,hd,?_,ay.ext x4 ru3 (fun b hb=>dne (ay.ty ru3 hb) (by decide)),hm3.ext x4 (hm3.ne d3.ty),ls3.EO x4 (fun b hb=>dne (lty3 b hb) (by decide)) (fun b _ hb hC=>dne (cty3 b hC) (by decide) hb) (fun _ _ k=>k),fun b hb=>(cty3 b hb).ext x4 (dne (cty3 b hb) (by decide)),k.cr,k.dge,k.mge⟩
 · rw[x4.block b (by have:=k.ext.size;have:=hx.size;omega) (by have:=k.dge;omega),hx.block b (by have:=k.ext.size;omega) (fun e=>by have:=(ay.lt k.nx e.symm).1;omega)];exact k.ext.block b hb kk
 · exact ay.ext x4 (eP.of ho hn rfl) (fun b hb=>dne (ay.ty ho hb) (by decide))
theorem gZ.KJ {g3 g4:ai}{v3:Value}{x:Int}{n:Nat}(k:gZ h0 h C db mb vl vn vr lists next rule) (hn:n=rule.length) (ho:ay g3 h0.size 3 1 v3 (n+1) (rule.map (Value.int .i64)++[.int .i64 x])) (hx:Ext (b8 vr.ownBlock) h g3) (hv:∀b,v3.ownBlock=some b->vr.ownBlock=some b\/h.size<=b) (hd:az g4 db 335 [vn,v3]) (x4:Ext (fun b=>b=db) g3 g4) :
 gZ h0 g4 C db mb vl vn v3 lists next (rule++[x]):=by
 have nne:∀{b:Nat}{t:TypeId},cq h b t->3≠t->¬b8 vr.ownBlock b:=fun kt ht e=>(k.DE _ e.symm).ne kt ht rfl
 have cne:∀{b:Nat},C b->¬b8 vr.ownBlock b:=fun hC e=>k.cr _ e.symm hC
 have d3:=k.dblk.ext hx (nne k.dblk.ty (by decide));have dne:∀{b:Nat}{t:TypeId},cq g3 b t->335≠t->¬b=db:=fun kt ht e=>by subst e;exact d3.ty.ne kt ht rfl
 have mne:¬b8 vr.ownBlock mb:=fun e=>k.mp.ne (k.DE _ e.symm) rfl
 have hm3:=k.mp.ext hx mne;have nx3:=ay.ext hx k.nx (fun b hb=>nne (k.EN b hb) (by decide));have ls3:eY CQ (fun b=>¬C b) g3 h0.size 117 vl lists:=k.ls.EO hx (fun b hb=>nne (k.GO b hb) (by decide)) (fun b _ hb hC=>cne hC hb) (fun _ _ k=>k);have lty3:∀b,vl.ownBlock=some b->cq g3 b 117:=fun b hb=>(k.GO b hb).ext hx (nne (k.GO b hb) (by decide))
 have cty3:∀b,C b->cq g3 b 3:=fun b hb=>(k.cty b hb).ext hx (cne hb)
 refine⟨⟨by have:=k.ext.size;have:=hx.size;have:=x4.size;omega,fun b hb kk=>?_⟩,hd,ay.ext x4 nx3 (fun b hb=>dne (ay.ty nx3 hb) (by decide)),?_,hm3.ext x4 (hm3.ne d3.ty),ls3.EO x4 (fun b hb=>dne (lty3 b hb) (by decide)) (fun b _ hb hC=>dne (cty3 b hC) (by decide) hb) (fun _ _ k=>k),fun b hb=>(cty3 b hb).ext x4 (dne (cty3 b hb) (by decide)),fun b hb hC=>?_,k.dge,k.mge⟩
 · rw[x4.block b (by have:=k.ext.size;have:=hx.size;omega) (by have:=k.dge;omega),hx.block b (by have:=k.ext.size;omega) (fun e=>by have:=(ay.lt k.ru e.symm).1;omega)];exact k.ext.block b hb kk
 · exact ay.ext x4 (bF.of (ys:=[x]) ho hn rfl rfl) (fun b hb=>dne (ay.ty ho hb) (by decide))
 · rcases hv b hb with e|e
   · exact k.cr b e hC
   · have:=(k.cty b hC).lt;omega
end
def zv (res:Int ⊕ gY) (h':ai) (r:Value):Prop:=match res with
 |.inl e=>r= .tuple #[.pointer none,.int .i64 e]
 |.inr d=>∃db,r= .tuple #[.pointer (some ⟨db,0,none⟩),.int .i64 0]/\qy h' db d
end Go.Proofs.YtckomlgchbkekaaGreatDoor
namespace Go.Proofs.YtckomlgchbkekaaGreatDoor
open Go.Proofs.Tryz
open Go Go.Lw
set_option maxRecDepth 20000 set_option maxHeartbeats 4000000
section
variable {h:ai}{d:gY}{live:List Bool}{cls:List Int}
theorem Be {O:Nat->Prop}{nb:Nat}{v:Value}{ss:List cL}{st:Nat}(htens:kY h) (hn:bD h O nb v ss st) (hgood:Good ss) (hss:ss.length<=30000) (hst:st<ss.length) (hpot1:1+rV ss (List.replicate ss.length false)<=1000000)
 (hpot:∀c now,List.Sublist now (List.range ss.length)->(stepG ss c now []).length+rV ss (List.replicate ss.length false)<=1000000) :
 aj Tryz.prog 156 #[.pointer (some ⟨nb,0,none⟩)] h (aN fun r h'=>zv (iH ss st) h' r/\ah h h'):=by
 generalize hres:iH ss st=res
 have hint:∀l:List Nat,l.Sublist (List.range ss.length)->(l.map Int.ofNat).length<=1000000/\∀n∈l.map Int.ofNat,-9223372036854775808<=n/\n<=9223372036854775807:=fun l hl=>by
  have h1:=hl.length_le;rw[List.length_range] at h1;refine⟨by rw[List.length_map];omega,fun n hn=>?_⟩;obtain⟨j,hj,rfl⟩:=List.mem_map.1 hn;have:=List.mem_range.1 (hl.subset hj);simp only[Int.ofNat_eq_natCast];omega
 refine bf ?_;refine aa ?_;refine xo rfl (aG rfl (Aa hn hgood (by omega) (.inr hst) hpot1)) ?_;rintro w4 h1 ⟨ho1,e1⟩;have hsub0:=B8 ss st;generalize hl0:b9 ss st=l0 at *;have hi0:=hint l0 hsub0;obtain⟨wa,wc,rfl,_⟩:=(show ay h1 h.size 3 1 w4 l0.length (l0.map cJ) from ho1).open;refine aa ?_;refine aQ (fun hz=>?_) (fun hz=>?_)
 · refine aa ?_;refine aW ?_;have:res= .inl 1:=by rw[<-hres,iH,hl0,if_pos (by omega)]
   subst this;exact⟨_,rfl,rfl,e1⟩
 · have hres':res=match je ss 2002 0 [l0] [] [] with|none=>.inl 70|some d=>.inr d:=by rw[<-hres,iH,hl0,if_neg (by omega)]<;>rfl
   refine aa ?_;refine xp rfl (au (H.HL ) rfl) ?_;refine xo rfl (cM) ?_;rintro _ h2 ⟨rfl,k2,e2,z2⟩;refine aa ?_;refine xo rfl (lY (ek:=Value.string) (ev:=Value.int .i64)) ?_;rintro _ h3 ⟨rfl,hm3,e3,z3⟩;have k2:az h2 h1.size 335 [.slice none 0 0,.slice none 0 0]:=k2;have e13:=e2.trans e3;have hz1:=e1.size;refine aa ?_;refine xo rfl (aG rfl (oY ((htens.af e1).af e13) (BJ (aR.mv (bF.read (O:=fun _=>False) (h1:=fun _=>rfl) ho1 (fun _ _ k=>k)) (Mv.af e13))) hi0.1 hi0.2)) ?_;rintro _ h4 ⟨rfl,e4⟩;have hm4:=hm3.ext e4 (fun k=>k);have z4:=e4.size;refine aY rfl (um (v:=(0:Int)) iJ underlying337 underlying9 rfl rfl rfl rfl rfl hm4 (rfl:jG (bs (fD (l0.map Int.ofNat))) []=none)) ?_;rintro _ h5 ⟨rfl,hm5,x5,z5⟩;have hm5:eJ Value.string (Value.int .i64) h5 h2.size (lC 0 [l0]):=hm5;have e05:ah h h5:=ah.only ((e1.trans e13).trans e4) x5 (by omega);have ho5:bF cJ h5 h.size 3 (.slice wa l0.length wc) l0:=ay.ext x5 (bF.af (bF.af ho1 e13) e4) (fun b hb (e:b=h2.size)=>by have:=(ay.lt ho1 hb).2;omega);have k5:az h5 h1.size 335 [.slice none 0 0,.slice none 0 0]:=((k2.af e3).af e4).ext x5 (by show ¬_=_;omega);refine aa ?_;refine xo rfl (kI [_]) ?_;rintro _ _ ⟨rfl,rfl⟩;refine aa ?_;have e56:ah h5 (h5.push (.cells #[.slice wa l0.length wc] 117)):=Ext.push _ _ _
   have ls6:eY CQ (fun b=>¬b8 (Value.slice wa l0.length wc).ownBlock b) (h5.push (.cells #[.slice wa l0.length wc] 117)) h.size 117 (.slice (some ⟨h5.size,0,none⟩) 1 1) [l0] :=
    eY.mM (e:=CQ) (cs:=[.slice wa l0.length wc]) ⟨_,rfl,ay.JV (h1:=fun _=>rfl) ho5 (fun b hb k=>k hb.symm)⟩ e05.size
   generalize h5.push (.cells #[.slice wa l0.length wc] 117)=h6 at *
   have mk6:gZ h h6 (b8 (Value.slice wa l0.length wc).ownBlock) h1.size h2.size (.slice (some ⟨h5.size,0,none⟩) 1 1) (.slice none 0 0) (.slice none 0 0) [l0] [] [] :=
    ⟨e05.trans e56,k5.af e56,eP.nil _ _ _ _ _,bF.nil _ _ _ _,hm5.ext e56 (fun k=>k),ls6,fun b hb=>cq.ext (ay.ty ho5 hb.symm) e56 (fun k=>k),fun b hb=>(by cases hb),hz1,by omega⟩
   refine zB (σ:=Nat×Value) (fun q=>[(0,.pointer (some ⟨nb,0,none⟩)),(5,.pointer (some ⟨h1.size,0,none⟩)),(6,.map (some h2.size)),(7,q.2),(8,.int .i64 (q.1:Nat))]) (fun q h'=>∃C vn vr lists next rule,gZ h h' C h1.size h2.size q.2 vn vr lists next rule/\q.1<=lists.length/\lists.length<=2000/\(next.length=q.1/\rule.length=q.1)/\(∀l∈lists,l.Sublist (List.range ss.length))/\res=(match je ss (2002-q.1) q.1 lists next rule with|none=>.inl 70|some d=>.inr d)) (fun q=>2002-q.1) ((0,.slice (some ⟨h5.size,0,none⟩) 1 1)) ⟨_,_,_,[l0],[],[],mk6,Nat.zero_le _,by simp,⟨rfl,rfl⟩,fun l hl=>by simp at hl;subst hl;exact hsub0,hres'⟩ ?_;rintro⟨i,vl⟩ g ⟨C,vn,vr,lists,next,rule,mk,hi,hl2,⟨hnl,hrl⟩,hsl,hcon⟩ ih
   try dsimp only
   dsimp only at mk hi hnl hrl hcon;obtain⟨css,hc1,hc2,hc3⟩:=id mk.ls;obtain⟨la,lc,rfl,_⟩:=hc2.open;have hng:bD g O nb v ss st:=hn.af mk.ext (fun _ _ k=>k);have mkg:=mk;refine aa ?_;refine aQ (fun hlt=>?_) (fun hlt=>?_)
   · have hil:i<lists.length:=by omega
     obtain⟨cur,hcur⟩:∃cur,lists[i]? =some cur:=⟨_,List.getElem?_eq_getElem hil⟩
     have hcsub:=hsl cur (List.mem_of_getElem? hcur);obtain⟨n,hnn⟩:∃n,2002-i=n+1:=⟨2001-i,by omega⟩
     rw[hnn,je,hcur] at hcon;simp only at hcon;generalize hrow:jP ss cur 256 0 lists []=tgt at hcon;refine aa ?_;refine xo rfl (cC) ?_;rintro _ g1 ⟨rfl,kz,ez,zz⟩;have kz:az g1 g.size 339 (([]:List Int).map (Value.int .i64)++List.replicate (256-0) (Value.int .i64 0)):=kz;have KY:=mk.af ez;have hvz:vn.ownBlock≠some g.size:=fun e=>by have:=(mk.EN _ e).lt;omega
     refine aa ?_;refine zB (σ:=Nat×Value) (fun q=>[(0,.pointer (some ⟨nb,0,none⟩)),(5,.pointer (some ⟨h1.size,0,none⟩)),(6,.map (some h2.size)),(7,q.2),(8,.int .i64 (i:Nat)),(9,.pointer (some ⟨g.size,0,none⟩)),(33,.int .i64 (q.1:Nat))]) (fun q h'=>∃C lists' row,gZ h h' C h1.size h2.size q.2 vn vr lists' next rule/\(q.1<=256/\row.length=q.1/\lists'.length<=2000+q.1)/\az h' g.size 339 (row.map (Value.int .i64)++List.replicate (256-q.1) (Value.int .i64 0))/\lists'[i]? =some cur/\(∀l∈lists',l.Sublist (List.range ss.length))/\jP ss cur (256-q.1) q.1 lists' row=tgt) (fun q=>256-q.1) ((0,.slice la lists.length lc)) ⟨C,lists,[],KY,⟨Nat.zero_le _,rfl,by simp;omega⟩,kz,hcur,hsl,hrow⟩ ?_;rintro⟨b,vl⟩ g2 ⟨C,lists,row,mk,⟨hb,hrlen,hlb⟩,kz,hcur,hsl,hrow⟩ ih2
     try dsimp only
     dsimp only at mk hb hrlen hlb kz hrow;have hng:bD g2 O nb v ss st:=hn.af mk.ext (fun _ _ k=>k);refine aa ?_;refine aQ (fun hb256=>?_) (fun hb256=>?_)
     · obtain⟨m,hm⟩:∃m,256-b=m+1:=⟨255-b,by omega⟩
       rw[hm,jP] at hrow;obtain⟨g',c',cs,hv',_,_,hrowv,_,⟨w,rfl,hw⟩,_⟩:=mk.ls.put hcur;subst hv';have hnlt:∀j∈cur,j<ss.length:=fun j hj=>List.mem_range.1 (hcsub.subset hj)
       have hcl:=hcsub.length_le;rw[List.length_range] at hcl;have hub:(UInt8.ofNat b).toNat=b:=by simp;omega
       have hwr:aR gQ g2 (fun _=>False) w cur:=BH hw (fun _ k=>k.elim);have hstep:=B6 (UInt8.ofNat b) hng hgood (by omega) hwr hnlt (by omega) (hpot _ _ hcsub);rw[hub] at hstep;have hlsub:=Et ss (UInt8.ofNat b) cur
       iterate 4 refine aI ?_
       refine bU ?_
       iterate 2 refine aU ?_
       refine bJ ?_;refine aI ?_;refine bU ?_
       iterate 3 refine aU ?_
       refine xp rfl (bT rfl rfl i rfl rfl (by have:=(List.getElem?_eq_some_iff.1 hcur).1;omega)) ?_;refine xp rfl (aA rfl (hrowv 0 _ rfl)) ?_;refine aU ?_;refine xp rfl (ur rfl (wrap_u8 ⟨by omega,by omega⟩)) ?_;refine xo rfl (aG rfl hstep) ?_;rintro w11 g3 ⟨ho3,e3⟩;generalize hl:dy ss (UInt8.ofNat b) cur=l at *;have hsN:cH ss cur lists b=if l.length=0 then (lists,-1) else match mP 0 lists l with|some i=>(lists,(i:Int))|none=>(lists++[l],(lists.length:Int)):=by unfold cH;rw[hl]<;>rfl
       have hil:=hint l hlsub;obtain⟨l11a,l11c,rfl,_⟩:=(show ay g3 g2.size 3 1 w11 l.length (l.map cJ) from ho3).open;have mk3:=mk.af e3;have kz3:=kz.af e3;have hkey:∀{gg:ai},ah g3 gg->aj Tryz.prog 212 #[.slice l11a l.length l11c] gg (aN fun r h'=>r= .string (bs (yb l))/\ah gg h'):=fun e=>oY (htens.af (mk3.ext.trans e)) (BJ (aR.mv (bF.read (O:=fun _=>False) (h1:=fun _=>rfl) ho3 (fun _ _ k=>k)) (Mv.af e))) hil.1 hil.2
       refine aa ?_;refine xo rfl (aG rfl (hkey (av _ _))) ?_;rintro _ g4 ⟨rfl,e4⟩;have mk4:=mk3.af e4;have kz4:=kz3.af e4;refine xp rfl (an.sF (z:=.int .i64 0) iJ underlying337 underlying9 (by kernel_rfl) rfl rfl rfl mk4.mp) ?_;rw[ud];refine aa ?_
       have fin:∀(to:Int) (vl2:Value) (h':ai) (ρ':Env),Sub [(0,.pointer (some ⟨nb,0,none⟩)),(5,.pointer (some ⟨h1.size,0,none⟩)),(6,.map (some h2.size)),(7,vl2),(8,.int .i64 (i:Nat)),(9,.pointer (some ⟨g.size,0,none⟩)),(10,.int .i64 (b:Nat)),(12,.int .i64 to),(33,.int .i64 (b:Nat))] ρ'->(∃C2,gZ h h' C2 h1.size h2.size vl2 vn vr (cH ss cur lists b).1 next rule)->to=(cH ss cur lists b).2->az h' g.size 339 (row.map (Value.int .i64)++List.replicate (256-b) (Value.int .i64 0))->G Tryz.prog 156 f156 [.code [1,1,1,1,0,0,1,1,0,0,1,0,1,0,0,1,0,0,1,0,1,1,1,1,1,1],.blk 3,.code [1,1,1,0,0,1,0,1,0,0,1,0,0,1,0,1,1,1,1,1,1],.loop [0,0,1,0,1,0,0,1,0,0,1,0,1,1,1,1,1,1],.blk 2,.code [1,1,0,0,1,0,0,1,0,1,1,1,1,1,1],.blk 1,.code [1,1,0,0,1,0,1,1,1,1,1,1],.loop [0,0,1,0,1,1,1,1,1,1],.blk 0,.code [1,1,1,1,1,1,1]] ρ' h' (aN fun r h'=>zv res h' r/\ah h h'):=by
        rintro to vl2 g5 ρ' hsub ⟨C2,mk5⟩ hto kz5;refine G.sub (ρ':=[(0,.pointer (some ⟨nb,0,none⟩)),(5,.pointer (some ⟨h1.size,0,none⟩)),(6,.map (some h2.size)),(7,vl2),(8,.int .i64 (i:Nat)),(9,.pointer (some ⟨g.size,0,none⟩)),(10,.int .i64 (b:Nat)),(12,.int .i64 to),(33,.int .i64 (b:Nat))]) hsub ?_
        have hrs:(cH ss cur lists b).1.length<=lists.length+1/\(cH ss cur lists b).1[i]? =some cur/\∀x∈(cH ss cur lists b).1,x.Sublist (List.range ss.length):=by
         rw[hsN];split
         · exact⟨Nat.le_succ _,hcur,hsl⟩
         · split
           · exact⟨Nat.le_succ _,hcur,hsl⟩
           · refine⟨by simp,by rw[List.getElem?_append_left (List.getElem?_eq_some_iff.1 hcur).1];exact hcur,fun x hx=>?_⟩
             rcases List.mem_append.1 hx with k|k
             · exact hsl x k
             · have:x=l:=by simpa using k
               rw[this];exact hlsub
        have hcells:(row.map (Value.int .i64)++List.replicate (256-b) (Value.int .i64 0)).length=256:=by simp[hrlen];omega
        have hset:(row.map (Value.int .i64)++List.replicate (256-b) (Value.int .i64 0)).set (0+b*1) (.int .i64 to)=(row++[to]).map (Value.int .i64)++List.replicate (256-(b+1)) (Value.int .i64 0):=by
         rw[Nat.zero_add,Nat.mul_one,List.set_append_right _ _ (by simp;omega),show 256-b=(256-(b+1))+1 by omega,List.replicate_succ];have:b-(row.map (Value.int .i64)).length=0:=by simp;omega
         rw[this,List.set_cons_zero];simp
        have hblt:0+b*1<(row.map (Value.int .i64)++List.replicate (256-b) (Value.int .i64 0)).length:=by rw[hcells];omega
        refine bU ?_
        iterate 2 refine aU ?_
        refine xp rfl (Ds rfl rfl b rfl (by omega)) ?_;refine aY rfl (bW H.fu rfl rfl rfl (kz5.cell (List.getElem?_eq_getElem hblt)) kz5.nf) ?_;rintro _ g6 ⟨rfl,hg6⟩;have k6:=kz5.set (0+b*1) (.int .i64 to);rw[<-hg6,hset] at k6;have x6:Ext (fun y=>y=g.size) g5 g6:=by rw[hg6];exact Ext.dD _ _ _ rfl
        have hzge:h.size<=g.size:=mkg.ext.size;have mk6:=mk5.put x6 kz5.ty hvz hzge;refine aa ?_;exact ih2 (b+1,vl2) ⟨C2,_,row++[to],mk6,⟨by show b+1<=256;omega,by simp[hrlen],by show _<=2000+(b+1);omega⟩,k6,hrs.2.1,hrs.2.2,by show jP ss cur (256-(b+1)) (b+1) _ _=tgt;rw[show 256-(b+1)=m by omega,hto];exact hrow⟩
       refine aQ (fun hz11=>?_) (fun hz11=>?_)
       · have hl0':l.length=0:=by omega
         refine bU ?_;refine aU ?_;refine bJ ?_;refine aI ?_;exact fin (-1) _ _ _ (by exact sb rfl) (by rw[hsN,if_pos hl0'];exact⟨C,mk4⟩) (by rw[hsN,if_pos hl0']) kz4
       · have hl0':¬l.length=0:=by omega
         rcases hfind:mP 0 lists l with _|j
         · refine aa ?_;refine fH rfl (by simp) ?_;refine aa ?_;refine xo rfl (aG rfl (hkey e4)) ?_;rintro _ g5 ⟨rfl,e5⟩;have mk5:=mk4.af e5;have hnone:jG (bs (yb l)) (lC 0 lists)=none:=by rw[ud,hfind];rfl
           refine aa ?_;refine aY rfl (aH.mapUpdate (v:=(lists.length:Int)) iJ underlying337 underlying9 rfl rfl rfl rfl rfl mk5.mp hnone) ?_;rintro _ g6 ⟨rfl,hm6,x6,z6⟩;have hm6:eJ Value.string (Value.int .i64) g6 h2.size (lC 0 (lists++[l])):=by rw[vL,Nat.zero_add];exact hm6
           have mapne:∀{b:Nat}{t:TypeId},cq g5 b t->¬b=h2.size:=fun k e=>mk5.mp.ne k e.symm
           have e35:=e4.trans e5;have ho5w:bF cJ g5 g2.size 3 (.slice l11a l.length l11c) l:=bF.af ho3 e35;have kz5:=kz4.af e5;have kz6:=kz5.ext x6 (mapne kz5.ty);have d6:=mk5.dblk.ext x6 (mapne mk5.dblk.ty);have nx6:=ay.ext x6 mk5.nx (fun b hb=>mapne (mk5.EN b hb));have ru6:=ay.ext x6 mk5.ru (fun b hb=>mapne (mk5.DE b hb));have ho6w:bF cJ g6 g2.size 3 (.slice l11a l.length l11c) l:=ay.ext x6 ho5w (fun b hb=>mapne (ay.ty ho5w hb))
           have ls6:eY CQ (fun b=>¬(C b\/b8 (Value.slice l11a l.length l11c).ownBlock b)) g6 h.size 117 (.slice (some ⟨g',0,none⟩) lists.length c') lists :=
            mk5.ls.EO x6 (fun b hb=>mapne (mk5.GO b hb)) (fun b _ hb hC=>mapne (mk5.cty b hC) hb) (fun b _ hb hC=>hb (.inl hC))
           have lty6:cq g6 g' 117:=(mk5.GO g' rfl).ext x6 (mapne (mk5.GO g' rfl));obtain⟨css,hc1,hc2,hc3⟩:=id ls6;have hz5:=mk5.ext.size;have hz2g:=mk.ext.size;refine aa ?_;refine xo rfl (kI [_]) ?_;rintro _ _ ⟨rfl,rfl⟩;refine xo rfl (Dr rfl rfl hc2 rfl rfl) ?_;rintro v7 g7 ⟨ho7,hx7,hx7',hv7⟩
           have lne:∀{b:Nat}{t:TypeId},cq g6 b t->117≠t->¬b8 (Value.slice (some ⟨g',0,none⟩) lists.length c').ownBlock b:=fun k ht e=>by
            simp only[b8,Value.ownBlock,Option.some.injEq] at e;subst e;exact lty6.ne k ht rfl
           have hsz3:=e3.size;have hsz35:=e35.size;have ty6:∀{b:Nat}{t:TypeId},cq g5 b t->cq g6 b t:=fun k=>k.ext x6 (mapne k)
           have hls7:eY CQ (fun b=>¬(C b\/b8 (Value.slice l11a l.length l11c).ownBlock b)) g7 h.size 117 v7 (lists++[l]) :=
            eY.mZ (h:=g6) (v:=.slice (some ⟨g',0,none⟩) lists.length c') (css:=css) (cs:=[.slice l11a l.length l11c]) hc1 hc3 ho7 hx7 hv7 ⟨_,rfl,ay.JV (h1:=fun _=>rfl) ho6w (fun b hb k=>by
             rcases k with k|k
             · exact lne (ay.ty ho6w hb) (by decide) k
             · exact k (.inr hb.symm))⟩
           have hmb6:¬b8 (Value.slice (some ⟨g',0,none⟩) lists.length c').ownBlock h2.size:=fun e=>by
            simp only[b8,Value.ownBlock,Option.some.injEq] at e;exact hm6.ne (e▸lty6) rfl
           have hext7:ah h g7:=⟨by have:=hx7.size;omega,fun b hb k=>by
            rw[hx7.block b (by omega) (fun e=>by
             simp only[b8,Value.ownBlock,Option.some.injEq] at e;have:=mk5.Qg g' rfl;omega),x6.block b (by omega) (by have:=mk5.mge;omega)]
            exact mk5.ext.block b hb k⟩
           have mk7:gZ h g7 (fun b=>C b\/b8 (Value.slice l11a l.length l11c).ownBlock b) h1.size h2.size v7 vn vr (lists++[l]) next rule :=
            ⟨hext7,d6.ext hx7 (lne d6.ty (by decide)),ay.ext hx7 nx6 (fun b hb=>lne (ay.ty nx6 hb) (by decide)),ay.ext hx7 ru6 (fun b hb=>lne (ay.ty ru6 hb) (by decide)),hm6.ext hx7 hmb6,hls7,
             fun b hb=>by
              rcases hb with hb|hb
              · exact cq.ext (ty6 (mk5.cty b hb)) hx7 (lne (ty6 (mk5.cty b hb)) (by decide))
              · exact cq.ext (ay.ty ho6w hb.symm) hx7 (lne (ay.ty ho6w hb.symm) (by decide)),
             fun b hb hC=>by
              rcases hC with hC|hC
              · exact mk5.cr b hb hC
              · have h1':=(mk.DE b hb).lt;have h2':=(ay.lt ho6w hC.symm).1;omega,mk5.dge,mk5.mge⟩
           obtain⟨v7a,v7c,rfl,_⟩:=ho7.open;refine aU ?_;refine bJ ?_;refine aI ?_;exact fin (lists.length:Int) _ _ _ (by exact sb rfl) (by rw[hsN,if_neg hl0',hfind];exact⟨_,mk7⟩) (by rw[hsN,if_neg hl0',hfind]) (kz6.ext hx7 (lne kz6.ty (by decide)))
         · have hj:=nq lists 0 j l hfind;refine aa ?_;refine bV rfl (by simp) ?_
           iterate 2 refine aI ?_
           exact fin (j:Int) _ _ _ (by exact sb rfl) (by rw[hsN,if_neg hl0',hfind];exact⟨C,mk4⟩) (by rw[hsN,if_neg hl0',hfind]) kz4
     · obtain rfl:b=256:=by omega
       rw[Nat.sub_self,jP] at hrow;subst hrow;simp only at hcon;obtain⟨css2,hd1,hd2,hd3⟩:=id mk.ls;obtain⟨la2,lc2,rfl,_⟩:=hd2.open;have hencr:bH (iS row)=row.map (Value.int .i64):=by rw[bH,xU hrlen]
       rw[Nat.sub_self,List.replicate_zero,List.append_nil,<-hencr] at kz;refine aa ?_;refine aQ (fun hbigl=>?_) (fun hbigl=>?_)
       · rw[if_pos (by omega)] at hcon;refine aa ?_;refine aW ?_;exact⟨_,rfl,by rw[hcon];rfl,mk.ext⟩
       · rw[if_neg (by omega)] at hcon
         have nne:∀{b:Nat}{t:TypeId},cq g2 b t->339≠t->¬(b8 vn.ownBlock b\/Array.size g2<=b):=fun kt ht e=>by
          rcases e with e|e
          · exact(mk.EN _ e.symm).ne kt ht rfl
          · have:=kt.lt;omega
         have hzM:¬(b8 vn.ownBlock g.size\/Array.size g2<=g.size):=by
          rintro(e|e)
          · exact hvz e.symm
          · have:=kz.lt;omega
         have hdM:=nne mk.dblk.ty (by decide);have hnx:ay g2 h.size 339 256 vn next.length (next.flatMap bH):=mk.nx
         have hone:∀u∈bH (iS row),u.oneCell'=true:=fun u hu=>by simp[bH] at hu;obtain⟨_,_,rfl⟩:=hu;rfl
         have hg2:=mk.ext.size;refine aa ?_;refine uq 11 (fun b=>b8 vn.ownBlock b\/Array.size g2<=b) (fun i=>Nat.blt i 10) ?_;refine ax 0 ?_;refine ax 1 ?_;refine ax 2 ?_;refine ax 3 ?_;refine aS 4 rfl (fun h' e=>aA rfl (e.cell hdM (mk.dblk.cell (i:=0) rfl))) ?_;refine aS 5 rfl (fun h' e=>bI rfl (e.rowAt hzM kz.row)) ?_;refine ct 6 rfl (aH.tQ (cs:=bH (iS row)) underlying333 H.D1 rfl (j7 _) (by decide)) ?_;rintro _ _ ⟨rfl,rfl⟩;refine⟨fun _=>(Ext.push _ _ _),?_⟩;refine ct 7 rfl (aH.wC underlying333 H.D1 rfl rfl hnx rfl (by simp) hone (by simp only[maxLen];omega) (by omega) hg2) ?_;rintro v3 g3 ⟨ho3,hx3,hx3',hv3⟩;refine⟨fun _=>hx3'.mono (fun _ _ k=>.inl k),?_⟩;obtain⟨a3,c3,rfl,_⟩:=ho3.open;refine BO 8 ?_;refine ax 9 ?_;refine eK 10 rfl (b7 rfl rfl ((mk.dblk.ext hx3 (fun e=>hdM (.inl e))))) ?_;rintro _ g4 ⟨rfl,k4,x4,z4⟩;refine⟨nofun,?_⟩;have mk4:=mk.KK (r:=iS row) rfl ho3 hx3 k4 x4;obtain⟨g',c',cs,hv',_,_,hrowv,_,⟨w,rfl,hw⟩,_⟩:=mk4.ls.put hcur;cases hv';have hng4:bD g4 O nb v ss st:=hn.af mk4.ext (fun _ _ k=>k);have hwr:aR gQ g4 (fun _=>False) w cur:=BH hw (fun _ k=>k.elim);have hnlt:∀j∈cur,j<ss.length:=fun j hj=>List.mem_range.1 (hcsub.subset hj)
         have hcl:=hcsub.length_le;rw[List.length_range] at hcl
         have rne:∀{b:Nat}{t:TypeId},cq g4 b t->3≠t->¬(b8 vr.ownBlock b\/Array.size g4<=b):=fun kt ht e=>by
          rcases e with e|e
          · exact(mk4.DE _ e.symm).ne kt ht rfl
          · have:=kt.lt;omega
         have hdM4:=rne mk4.dblk.ty (by decide);have hlM4:=rne (mk4.GO g' rfl) (by decide);have hru:ay g4 h.size 3 1 vr rule.length (rule.map (Value.int .i64)):=mk4.ru;have hg4s:=mk4.ext.size;have hli:i<lists.length:=(List.getElem?_eq_some_iff.1 hcur).1;refine dP ?_;refine uq 16 (fun b=>b8 vr.ownBlock b\/Array.size g4<=b) (fun i=>Nat.blt i 15) ?_;refine ax 0 ?_;refine ax 1 ?_;refine ax 2 ?_;refine ax 3 ?_;refine aS 4 rfl (fun h' e=>aA rfl (e.cell hdM4 (mk4.dblk.cell (i:=1) rfl))) ?_;refine ax 5 ?_;refine ax 6 ?_;refine ax 7 ?_;refine aS 8 rfl (fun h' e=>bT rfl rfl i rfl rfl) ?_;refine aS 9 rfl (fun h' e=>aA rfl (e.cell hlM4 (hrowv 0 _ rfl))) ?_;refine ct 10 rfl (aG rfl (vv hng4 (by omega) hwr hnlt (by omega))) ?_;rintro _ g5 ⟨rfl,hg5⟩;refine⟨fun _=>by subst hg5;exact av _ _,?_⟩;subst hg5;refine ct 11 rfl (kI [_]) ?_;rintro _ _ ⟨rfl,rfl⟩;refine⟨fun _=>by first|exact Ext.push _ _ _|assumption,?_⟩;refine ct 12 rfl (Dr rfl rfl hru rfl rfl) ?_;rintro v6 g6 ⟨ho6,hx6,hx6',hv6⟩;refine⟨fun _=>hx6'.mono (fun _ _ k=>.inl k),?_⟩;obtain⟨a6,c6,rfl,_⟩:=ho6.open;refine BO 13 ?_;refine ax 14 ?_;refine eK 15 rfl (b7 rfl rfl ((mk4.dblk.ext hx6 (fun e=>hdM4 (.inl e))))) ?_;rintro _ g7 ⟨rfl,k7,x7,z7⟩;refine⟨nofun,?_⟩;have mk7:=mk4.KJ (x:=bQ ss cur) rfl ho6 hx6 hv6 k7 x7;refine dP ?_;refine aa ?_;exact ih (i+1,_) ⟨C,_,_,lists,next++[iS row],rule++[bQ ss cur],mk7,by show i+1<=lists.length;omega,by omega,⟨by simp[hnl],by simp[hrl]⟩,hsl,by rw[hcon,show 2002-(i+1)=n by omega]⟩
   · have hie:i=lists.length:=by omega
     have hnone:lists[i]? =none:=List.getElem?_eq_none (by omega);obtain⟨n,hnn⟩:∃n,2002-i=n+1:=⟨2001-i,by omega⟩
     rw[hnn,je,hnone] at hcon;simp only at hcon;refine aa ?_;refine aW ?_;refine⟨_,rfl,?_,mk.ext⟩;rw[hcon];exact⟨h1.size,rfl,vn,vr,mk.dblk,eP.read mk.nx (fun _ _ k=>k),bF.read (h1:=fun _=>rfl) mk.ru (fun _ _ k=>k)⟩
theorem Az (r:Row):over (List.replicate 256 (Value.int .i64 0)) 0 (bH r)=bH r:=by
 unfold over;rw[List.take_zero,List.nil_append,j7,List.drop_of_length_le (by simp),List.append_nil]
theorem Cy {db:Nat}(k:qy h db d) (hok:d.Ok) :
 aj Tryz.prog 216 #[.pointer (some ⟨db,0,none⟩)] h (aN fun r h'=>bF Value.bool h' h.size 4 r (pZ d)/\ah h h'):=by
 obtain⟨vn,vr,hk,⟨na,nn,nc,rfl,hnl,hnc,hnm,hgetn⟩,⟨ra,rn,rc,rfl,hrl,hrc,hrm,hgetr⟩⟩:=k;have hlen:=hok.len;have hsize:=hok.size;have hslN:aR D2 h (fun _=>False) (.slice na nn nc) d.next:=⟨_,_,_,rfl,hnl,hnc,hnm,hgetn⟩
 have hslR:aR (.int .i64) h (fun _=>False) (.slice ra rn rc) d.rule:=⟨_,_,_,rfl,hrl,hrc,hrm,hgetr⟩
 subst hnl;generalize htgt:pZ d=tgt;refine bf ?_;refine aa ?_;refine xp rfl (aA rfl (hk.cell (i:=0) rfl)) ?_;refine aa ?_;refine xo rfl (aH.nX underlying167 H.Pf H.OG rfl rfl rfl (by omega) (by decide)) ?_;rintro _ h1 ⟨rfl,k1,e1⟩;have k1:bF Value.bool h1 h.size 4 (.slice (some ⟨h.size,0,none⟩) d.next.length d.next.length) (List.replicate d.next.length false):=by unfold bF;simpa using k1
 have hf0:gX (List.replicate d.next.length false)<=d.next.length:=by unfold gX;exact Nat.le_trans (List.length_filter_le _ _) (by simp)
 refine aa ?_;refine eR (σ:=Nat×Bool×List Bool) (fun q=>[(4,.bool q.2.1)]) (fun q h'=>ah h h'/\bF Value.bool h' h.size 4 (.slice (some ⟨h.size,0,none⟩) d.next.length d.next.length) q.2.2/\q.2.2.length=d.next.length/\(q.2.1=true->gX q.2.2<q.1/\vX d q.1 q.2.2=tgt)/\(q.2.1=false->q.2.2=tgt)) (fun q=>q.1+(if q.2.1 then 1 else 0)) ((d.next.length+1,true,List.replicate d.next.length false)) ⟨e1,k1,by simp,fun _=>⟨Nat.lt_succ_of_le hf0,htgt⟩,fun k=>(by cases k)⟩ rfl ?_;rintro⟨n,ag,out⟩ g ⟨eg,ho,hol,hT,hF⟩ ih
 try dsimp only
 dsimp only at ho hol hT hF;refine aa ?_;refine oL (fun hag=>?_) (fun hag=>?_)
 · subst hag;obtain⟨hfn,hcon⟩:=hT rfl;obtain⟨n,rfl⟩:∃m,n=m+1:=⟨n-1,by omega⟩
   rw[vX] at hcon;have hless:=jb d d.next.length 0 out false (by omega)
   generalize hps:cm d d.next.length 0 out false=ps at hcon hless
   refine aa ?_;refine xp rfl (aA rfl ((hk.af eg).cell (i:=0) rfl)) ?_;refine aa ?_;refine eR (σ:=Nat×Bool×List Bool) (fun q=>[(4,.bool q.2.1),(21,.int .i64 (q.1:Nat))]) (fun q h'=>ah h h'/\bF Value.bool h' h.size 4 (.slice (some ⟨h.size,0,none⟩) d.next.length d.next.length) q.2.2/\q.2.2.length=d.next.length/\q.1<=d.next.length/\cm d (d.next.length-q.1) q.1 q.2.2 q.2.1=ps) (fun q=>d.next.length-q.1) ((0,false,out)) ⟨eg,ho,hol,Nat.zero_le _,hps⟩ rfl ?_;rintro⟨k,ag,out⟩ g2 ⟨eg2,ho,hol,hkl,hcon2⟩ ih2
   try dsimp only
   dsimp only at ho hol hkl hcon2;refine aa ?_;refine aQ (fun hlt=>?_) (fun hlt=>?_)
   · have hkN:k<d.next.length:=by omega
     obtain⟨m,hm⟩:∃m,d.next.length-k=m+1:=⟨d.next.length-k-1,by omega⟩
     rw[hm,cm] at hcon2;obtain⟨r,hr⟩:∃r,d.next[k]? =some r:=⟨_,List.getElem?_eq_getElem hkN⟩
     obtain⟨oa',n',c',hv',_,_,_,hgetn⟩:=id (hslN.mv (Mv.af eg2));cases hv';obtain⟨b1,o1,cs1,ha1,_,hrow1,rfl⟩:=hgetn k r hr;have hone:∀u∈bH r,u.oneCell'=true:=fun u hu=>by simp[bH] at hu;obtain⟨_,_,rfl⟩:=hu;rfl
     obtain⟨bx,hbx⟩:∃bx,out[k]? =some bx:=⟨_,List.getElem?_eq_getElem (by omega)⟩
     have hgd:out.getD k false=bx:=by rw[List.getD_eq_getElem?_getD,hbx];rfl
     rw[hgd] at hcon2
     iterate 4 refine aI ?_
     refine bU ?_;refine aU ?_;refine xp rfl (bT rfl rfl k rfl ha1) ?_;refine xp rfl (bI rfl hrow1) ?_;refine xo rfl (cC) ?_;rintro _ g3 ⟨rfl,k6,e3,z3⟩;have k6:az g3 g2.size 339 (List.replicate 256 (Value.int .i64 0)):=k6;refine aa ?_;refine aY rfl (bM rfl rfl k6 hone) ?_;rintro _ g4 ⟨rfl,k7,x7,z7⟩;have k7:az g4 g2.size 339 (bH r):=by rw[<-Az r];exact k7
     have e4:ah g2 g4:=ah.only e3 x7 (Nat.le_refl _);have eg4:=eg2.trans e4;have ho4:=bF.af ho e4;obtain⟨gg,c4,hv4,hgb,hglt,hcell,hfz,hset⟩:=ho4.at hbx;rw[hol] at hv4;cases hv4;refine bJ ?_
     iterate 2 refine aI ?_
     refine bU ?_
     iterate 2 refine aU ?_
     refine xp rfl (bT rfl rfl k rfl rfl) ?_;refine xp rfl (aA rfl hcell) ?_;refine aa ?_;refine oL (fun hb=>?_) (fun hb=>?_)
     · subst hb;rw[if_pos rfl] at hcon2;refine aa ?_;exact ih2 (k+1,ag,out) ⟨eg4,ho4,hol,hkN,by show cm d (d.next.length-(k+1)) _ _ _=ps;rw[show d.next.length-(k+1)=m by omega];exact hcon2⟩
     · subst hb;rw[if_neg (by decide)] at hcon2;obtain⟨x,hx⟩:∃x,d.rule[k]? =some x:=⟨_,List.getElem?_eq_getElem (by omega)⟩
       have hru:d.ru k=x:=by unfold gY.ru;rw[List.getD_eq_getElem?_getD,hx];rfl
       have hrow:d.row k=r.v:=by unfold gY.row;rw[hr]
       obtain⟨oa',n',c',hv',_,_,_,hgetr⟩:=id (hslR.mv (Mv.af eg4));cases hv';obtain⟨b2,o2,cs2,ha2,_,hrow2,rfl⟩:=hgetr k x hx;refine aa ?_;refine xp rfl (aA rfl ((hk.af eg4).cell (i:=1) rfl)) ?_;refine aU ?_;refine xp rfl (bT rfl rfl k rfl ha2) ?_;refine xp rfl (aA rfl (hrow2 0 _ rfl)) ?_;refine aU ?_;refine xp rfl (bT rfl rfl k rfl rfl) ?_;refine aY rfl (bW H.zC rfl rfl rfl hcell hfz) ?_;rintro _ g5 ⟨rfl,hg5⟩;have hset:=hset (decide (0<=x));rw[<-hg5] at hset;have x5:Ext (fun b=>b=h.size) g4 g5:=by rw[hg5];exact Ext.dD _ _ _ rfl
       have e5:ah h g5:=ah.only eg4 x5 (Nat.le_refl _);have hz2:=eg2.size;have hlt2:h.size<g2.size:=(ay.lt ho rfl).2;have k8:=k7.ext x5 (by show ¬_=_;omega);refine aa ?_;refine xp rfl (bI rfl k8.row) ?_;refine aa ?_;refine eR (σ:=Nat) (fun j=>[(42,.int .i64 (j:Nat))]) (fun j h'=>ah h h'/\bF Value.bool h' h.size 4 (.slice (some ⟨h.size,0,none⟩) d.next.length d.next.length) (out.set k (decide (0<=x) ||(r.v.take j).any (gk out)))/\j<=256) (fun j=>256-j) (0) ⟨e5,by simpa using hset,Nat.zero_le _⟩ rfl ?_;rintro j g6 ⟨eg6,ho6,hj⟩ ih3;refine aa ?_;refine aQ (fun hlt3=>?_) (fun hlt3=>?_)
       · have hj2:j<256:=by omega
         obtain⟨t,ht⟩:∃t,r.v[j]? =some t:=⟨_,List.getElem?_eq_getElem (by rw[r.len];exact hj2)⟩
         have htr:(r.v.take (j+1)).any (gk out)=((r.v.take j).any (gk out) ||gk out t):=by rw[List.take_add_one,ht,List.any_append];simp
         have htm:=hok.to r (List.mem_of_getElem? hr) t (List.mem_of_getElem? ht);generalize hc:(decide (0<=x) ||(r.v.take j).any (gk out))=cb at ho6;have hcell6:(out.set k cb)[k]? =some cb:=by rw[List.getElem?_set_self (by rw[hol];exact hkN)]
         obtain⟨gg,c6,hv6,_,_,hcc6,hfz6,hset6⟩:=ho6.at hcell6;rw[List.length_set,hol] at hv6;cases hv6
         have fin:∀y g7,y=(decide (0<=x) ||(r.v.take (j+1)).any (gk out))->g7=dD g6 ⟨h.size,0+k*1,none⟩ (.bool y)->ah h g7/\bF Value.bool g7 h.size 4 (.slice (some ⟨h.size,0,none⟩) d.next.length d.next.length) (out.set k (decide (0<=x) ||(r.v.take (j+1)).any (gk out)))/\j+1<=256:=by
          rintro y g7 rfl rfl;have k9:=hset6 (decide (0<=x) ||(r.v.take (j+1)).any (gk out));rw[List.set_set] at k9;exact⟨ah.only eg6 (Ext.dD (M:=fun b=>b=h.size) g6 _ _ rfl) (Nat.le_refl _),k9,hj2⟩
         refine aa ?_;refine xp rfl (an.sV underlying339 H.fu H.BC rfl rfl j rfl hj2 (show (bH r).toArray[j]? =some (Value.int .i64 t) by simp[bH,ht])) ?_;refine aU ?_;refine bJ ?_;refine bU ?_
         iterate 4 refine aU ?_
         refine xp rfl (bT rfl rfl k rfl rfl) ?_;refine xp rfl (aA rfl hcc6) ?_;refine aa ?_;refine dx 51 (fun hg=>?_) (fun hg=>?_)
         · iterate 8 refine OA ?_
           refine aU ?_;refine xp rfl (bT rfl rfl k rfl rfl) ?_;refine aY rfl (bW H.zC rfl rfl rfl hcc6 hfz6) ?_;rintro _ g7 ⟨rfl,hg7⟩;refine aa ?_;exact ih3 (j+1) (fin true g7 (by rw[htr,<-Bool.or_assoc,hc,hg];rfl) hg7)
         · refine aa ?_;refine dx 54 (fun hg2=>?_) (fun hg2=>?_)
           · have hg2':=of_decide_eq_true hg2;obtain⟨t2,rfl⟩:=Int.eq_ofNat_of_zero_le hg2';obtain⟨bt,hbt⟩:∃bt,(out.set k cb)[t2]? =some bt:=⟨_,List.getElem?_eq_getElem (by rw[List.length_set,hol];omega)⟩
             obtain⟨gg,c6,hv6,_,_,hct,_,_⟩:=ho6.at hbt;rw[List.length_set,hol] at hv6;cases hv6
             have hlt2:gk out (t2:Nat)=bt:=by
              unfold gk;rw[decide_eq_true (show (0:Int)<=(t2:Nat) by omega),Bool.true_and,Int.toNat_natCast,List.getD_eq_getElem?_getD]
              by_cases e:k=t2
              · subst e;rw[hcell6] at hbt;cases hbt;rw[hbx,hg];rfl
              · rw[List.getElem?_set_ne e] at hbt;rw[hbt];rfl
             iterate 2 refine aU ?_
             refine xp rfl (bT rfl rfl t2 rfl rfl) ?_;refine xp rfl (aA rfl hct) ?_
             iterate 2 refine aU ?_
             refine xp rfl (bT rfl rfl k rfl rfl) ?_;refine aY rfl (bW H.zC rfl rfl rfl hcc6 hfz6) ?_;rintro _ g7 ⟨rfl,hg7⟩;refine aa ?_;exact ih3 (j+1) (fin bt g7 (by rw[htr,<-Bool.or_assoc,hc,hg,hlt2,Bool.false_or]) hg7)
           · have hg2':=of_decide_eq_false hg2
             iterate 4 refine OA ?_
             iterate 2 refine aU ?_
             refine xp rfl (bT rfl rfl k rfl rfl) ?_;refine aY rfl (bW H.zC rfl rfl rfl hcc6 hfz6) ?_;rintro _ g7 ⟨rfl,hg7⟩;refine aa ?_;exact ih3 (j+1) (fin false g7 (by rw[htr,<-Bool.or_assoc,hc,hg];unfold gk;rw[decide_eq_false hg2'];rfl) hg7)
       · have hje:j=256:=by omega
         have hla:(decide (0<=x) ||(r.v.take j).any (gk out))=gm d out k:=by
          unfold gm;rw[hru,hrow,hje,List.take_of_length_le (by rw[r.len];exact Nat.le_refl _)]
         rw[hla] at ho6;have hcell6:(out.set k (gm d out k))[k]? =some (gm d out k):=by rw[List.getElem?_set_self (by rw[hol];exact hkN)]
         obtain⟨gg,c6,hv6,_,_,hcc6,hfz6,_⟩:=ho6.at hcell6;rw[List.length_set,hol] at hv6;cases hv6;refine aI ?_;refine dM [(4,.bool (ag ||gm d out k))] rfl ?_ ?_
         · refine aa ?_;refine dx 64 (fun hg=>?_) (fun hg=>?_)
           · refine aa ?_;exact aL rfl ⟨ak rfl (by rw[hg];rfl),sb rfl⟩
           · iterate 2 refine aU ?_
             refine xp rfl (bT rfl rfl k rfl rfl) ?_;refine xp rfl (aA rfl hcc6) ?_;refine aa ?_;exact aL rfl ⟨ak rfl (by rw[hg];rfl),sb rfl⟩
         · refine aa ?_;exact ih2 (k+1,ag ||gm d out k,out.set k (gm d out k)) ⟨eg6,ho6,by show (out.set k _).length=_;rw[List.length_set];exact hol,hkN,by show cm d (d.next.length-(k+1)) _ _ _=ps;rw[show d.next.length-(k+1)=m by omega];exact hcon2⟩
   · have hke:d.next.length-k=0:=by omega
     rw[hke,cm] at hcon2;subst hcon2;simp only at hcon hless;refine aa ?_
     exact ih (n,ag,out) ⟨eg2,ho,hol,fun ht=>by
      subst ht;rw[if_pos rfl] at hcon
      rcases hless.2 rfl with k|k
      · cases k
      · exact⟨by show gX out<n;omega,hcon⟩,fun hf=>by
      subst hf;rw[if_neg (by decide)] at hcon;exact hcon⟩ (by show n+(if ag=true then 1 else 0)<n+1+(if true=true then 1 else 0);rw[if_pos rfl];split<;>omega)
 · subst hag;have hcon:=hF rfl;refine aa ?_;refine aW ?_;exact⟨_,rfl,by rw[<-hcon];unfold bF at ho ⊢;rw[hol] at ho ⊢;exact ho,eg⟩
def fU:Nat->List (List Int)->List (ByteArray×Int)
 |_,[]=>[]
 |i,x::r=>(bs (fD x),(i:Int))::fU (i+1) r
theorem rL:∀(ls:List (List Int)) (i:Nat) (l:List Int),fU i (ls++[l])=fU i ls++[(bs (fD l),((i+ls.length:Nat):Int))]
 | [],i,l=>by simp[fU]
 |x::r,i,l=>by
  simp only[List.cons_append,fU];rw[rL r (i+1) l,List.length_cons,show i+1+r.length=i+(r.length+1) by omega]
theorem oQ:∀(ls:List (List Int)) (i:Nat),(fU i ls).length=ls.length
 | [],_=>rfl
 |x::r,i=>by rw[fU,List.length_cons,List.length_cons,oQ r (i+1)]
theorem jC:∀(ls:List (List Int)) (i:Nat) (l:List Int),jG (bs (fD l)) (fU i ls)=(kQ i ls l).map fun j=>(j:Int)
 | [],i,l=>rfl
 |x::r,i,l=>by
  rw[fU,jG,kQ]
  by_cases h:l=x
  · subst h;rw[if_pos rfl,if_pos rfl];rfl
  · have hk:¬bs (fD l)=bs (fD x):=fun e=>h (key_inj (jg e))
    rw[if_neg hk,if_neg h];exact jC r (i+1) l
theorem tU {t:Int}(h:t<0\/live.getD t.toNat false=false):de live cls t= -2:=if_pos h
theorem Da {t:Int}(h:¬(t<0\/live.getD t.toNat false=false)):de live cls t=cls.getD t.toNat 0:=if_neg h
theorem qg (hcb:∀x∈cls,-1<=x/\x<=1000000) (k:Nat) : -1<=cls.getD k 0/\cls.getD k 0<=1000000:=by
 rw[List.getD_eq_getElem?_getD];cases hk:cls[k]? with
 |none=>simp
 |some x=>exact hcb x (List.mem_of_getElem? hk)
theorem xb (hcb:∀x∈cls,-1<=x/\x<=1000000) (k:Nat):∀x∈nL d live cls k,-9223372036854775808<=x/\x<=9223372036854775807:=by
 intro x hx
 rcases List.mem_cons.1 hx with e|e
 · have:=qg hcb k;omega
 · obtain⟨t,_,rfl⟩:=List.mem_map.1 e;unfold de;split
   · omega
   · have:=qg hcb t.toNat;omega
theorem tu:∀(ls:List (List Int)) (i:Nat) (l:List Int),kQ i ls l=none->kQ i (ls++[l]) l=some (i+ls.length)
 | [],i,l,_=>by simp[kQ]
 |x::r,i,l,h=>by
  rw[kQ] at h;split at h
  · cases h
  · rename_i hn;rw[List.cons_append,kQ,if_neg hn,tu r (i+1) l h,List.length_cons]
    congr 1;omega
theorem uO {db:Nat}{lv:Value}(htens:kY h) (k:qy h db d) (hok:d.Ok) (hlv:aR .bool h (fun _=>False) lv live) (hll:live.length=d.next.length) :
 aj Tryz.prog 217 #[.pointer (some ⟨db,0,none⟩),lv] h (aN fun r h'=>bF (Value.int .i64) h' h.size 3 r (tN d live)/\ah h h'):=by
 obtain⟨vn,vr,hk,⟨na,nn,nc,rfl,hnl,hnc,hnm,hgetn⟩,⟨ra,rn,rc,rfl,hrl,hrc,hrm,hgetr⟩⟩:=k;obtain⟨va,vm,vc,rfl,hvl,hvc,hvm,hgetv⟩:=hlv;have hlen:=hok.len;have hsize:=hok.size;have hslN:aR D2 h (fun _=>False) (.slice na nn nc) d.next:=⟨_,_,_,rfl,hnl,hnc,hnm,hgetn⟩
 have hslR:aR (.int .i64) h (fun _=>False) (.slice ra rn rc) d.rule:=⟨_,_,_,rfl,hrl,hrc,hrm,hgetr⟩
 have hslV:aR .bool h (fun _=>False) (.slice va vm vc) live:=⟨_,_,_,rfl,hvl,hvc,hvm,hgetv⟩
 subst hnl;generalize htgt:tN d live=tgt;refine bf ?_;refine aa ?_;refine xp rfl (aA rfl (hk.cell (i:=0) rfl)) ?_;refine aa ?_;refine xo rfl (aH.nX underlying117 H.Ld H.OI rfl rfl rfl (by omega) (by decide)) ?_;rintro _ h1 ⟨rfl,k1,e1⟩;have k1:bF (Value.int .i64) h1 h.size 3 (.slice (some ⟨h.size,0,none⟩) d.next.length d.next.length) (List.replicate d.next.length 0):=by unfold bF;simpa using k1
 refine aa ?_;refine eR (σ:=Nat) (fun i=>[(26,.int .i64 (i:Nat))]) (fun i h'=>ah h h'/\bF (Value.int .i64) h' h.size 3 (.slice (some ⟨h.size,0,none⟩) d.next.length d.next.length) (d.rule.take i++List.replicate (d.next.length-i) 0)/\i<=d.next.length) (fun i=>d.next.length-i) (0) ⟨e1,by simpa using k1,Nat.zero_le _⟩ rfl ?_;rintro i g ⟨eg,ho,hi⟩ ih;refine aa ?_;refine aQ (fun hlt=>?_) (fun hlt=>?_)
 · have hiN:i<d.next.length:=by omega
   obtain⟨x,hx⟩:∃x,d.rule[i]? =some x:=⟨_,List.getElem?_eq_getElem (by omega)⟩
   have hxe:d.rule[i]'(by omega)=x:=(List.getElem?_eq_some_iff.1 hx).2;obtain⟨oa',n',c',hv',_,_,_,hgetr⟩:=id (hslR.mv (Mv.af eg));cases hv';obtain⟨b2,o2,cs2,ha2,_,hrow2,rfl⟩:=hgetr i x hx;obtain⟨gg,c4,hv4,hgb,hglt,hcell,hfz,hset⟩:=ho.at (Hh (z:=(0:Int)) hlen hiN);rw[Hg hlen hi] at hv4;cases hv4;refine aa ?_;refine xp rfl (aA rfl ((hk.af eg).cell (i:=1) rfl)) ?_;refine aU ?_;refine xp rfl (bT rfl rfl i rfl ha2) ?_;refine xp rfl (aA rfl (hrow2 0 _ rfl)) ?_;refine xp rfl (bT rfl rfl i rfl rfl) ?_;refine aY rfl (bW H.fu rfl rfl rfl hcell hfz) ?_;rintro _ g2 ⟨rfl,hg2⟩;have hset:=hset x;rw[<-hg2,<-hxe,Hf hlen hiN] at hset;have x2:Ext (fun b=>b=h.size) g g2:=by rw[hg2];exact Ext.dD _ _ _ rfl
   have e2:ah h g2:=ah.only eg x2 (Nat.le_refl _);refine aa ?_;exact ih (i+1) ⟨e2,hset,hiN⟩
 · obtain rfl:i=d.next.length:=by omega
   rw[Nat.sub_self,List.replicate_zero,List.append_nil,List.take_of_length_le (by omega)] at ho;refine aa ?_;refine eR (σ:=Nat×Nat×Value×List Int) (fun q=>[(5,q.2.2.1),(7,.int .i64 (q.2.1:Nat))]) (fun q h'=>ah h h'/\bF (Value.int .i64) h' h.size 3 q.2.2.1 q.2.2.2/\q.2.2.2.length=d.next.length/\(∀x∈q.2.2.2,-1<=x/\x<=1000000)/\(q.2.1<=d.next.length/\pK q.2.1 q.2.2.2/\d.next.length+1<=q.1+q.2.1)/\o7 d live q.1 q.2.1 q.2.2.2=tgt) (fun q=>q.1) ((d.next.length+1,0,.slice (some ⟨h.size,0,none⟩) d.next.length d.next.length,d.rule)) ⟨eg,ho,hlen,hok.ru,⟨Nat.zero_le _,fun i hi=>absurd hi (Nat.not_lt_zero _),by simp⟩,htgt⟩ rfl ?_;rintro⟨n,many,vcl,cls⟩ g ⟨eg,ho,hcl,hcb,⟨hmN,hcov,hfuel⟩,hcon⟩ ih
   try dsimp only
   dsimp only at ho hcl hcb hmN hcov hfuel hcon;obtain⟨n,rfl⟩:∃m,n=m+1:=⟨n-1,by omega⟩
   rw[o7] at hcon;have hmore:=tM (d:=d) (live:=live) hcov hcl;have hend:=gK d live cls;generalize hps:bO d live cls d.next.length 0 [] []=ps at hcon hmore hend
   obtain⟨la,lc,rfl,_⟩:=(show ay g h.size 3 1 vcl cls.length (cls.map (Value.int .i64)) from ho).open;rw[hcl] at ho;have hown:∀b,(Value.slice la d.next.length lc).ownBlock=some b->b<g.size:=fun b hb=>(ay.lt ho hb).2
   rw[hcl];refine aa ?_;refine xo rfl (lY (ek:=Value.string) (ev:=Value.int .i64)) ?_;rintro _ g1 ⟨rfl,hm1,e1',z1⟩;refine aa ?_;refine xo rfl (aH.nX underlying117 H.Ld H.OI rfl rfl rfl (by omega) (by decide)) ?_;rintro _ g2 ⟨rfl,k2,e2⟩;have k2:bF (Value.int .i64) g2 g1.size 3 (.slice (some ⟨g1.size,0,none⟩) d.next.length d.next.length) (List.replicate d.next.length 0):=by unfold bF;simpa using k2
   have hm2:=hm1.ext e2 (fun k=>k);have e12:=e1'.trans e2;refine aa ?_;refine xp rfl (aA rfl ((hk.af (eg.trans e12)).cell (i:=0) rfl)) ?_;refine aa ?_;refine eR (σ:=Nat×List (List Int)×List Int) (fun q=>[(49,.int .i64 (q.1:Nat))]) (fun q h'=>ah g h'/\eJ Value.string (Value.int .i64) h' g.size (fU 0 q.2.1)/\bF (Value.int .i64) h' g1.size 3 (.slice (some ⟨g1.size,0,none⟩) d.next.length d.next.length) (q.2.2++List.replicate (d.next.length-q.1) 0)/\(q.1<=d.next.length/\q.2.2.length=q.1/\q.2.1.length<=q.1)/\bO d live cls (d.next.length-q.1) q.1 q.2.1 q.2.2=ps) (fun q=>d.next.length-q.1) ((0,[],[])) ⟨e12,hm2,k2,⟨Nat.zero_le _,rfl,Nat.le_refl _⟩,hps⟩ rfl ?_;rintro⟨k,seen,after⟩ g3 ⟨e3,hmp,haf,⟨hkN,hal,hsl⟩,hcon2⟩ ih2
   try dsimp only
   dsimp only at hmp haf hkN hal hsl hcon2;have eg3:=eg.trans e3;have ho3:=bF.af ho e3;refine aa ?_;refine aQ (fun hlt=>?_) (fun hlt=>?_)
   · have hkN:k<d.next.length:=by omega
     obtain⟨m,hm⟩:∃m,d.next.length-k=m+1:=⟨d.next.length-k-1,by omega⟩
     rw[hm,bO] at hcon2;obtain⟨r,hr⟩:∃r,d.next[k]? =some r:=⟨_,List.getElem?_eq_getElem hkN⟩
     obtain⟨oa',n',c',hv',_,_,_,hgetn⟩:=id (hslN.mv (Mv.af eg3));cases hv';obtain⟨b1,o1,cs1,ha1,_,hrow1,rfl⟩:=hgetn k r hr;have hone:∀u∈bH r,u.oneCell'=true:=fun u hu=>by simp[bH] at hu;obtain⟨_,_,rfl⟩:=hu;rfl
     have hrow:d.row k=r.v:=by unfold gY.row;rw[hr]
     iterate 4 refine aI ?_
     refine bU ?_;refine aU ?_;refine xp rfl (bT rfl rfl k rfl ha1) ?_;refine xp rfl (bI rfl hrow1) ?_;refine xo rfl (cC) ?_;rintro _ g4 ⟨rfl,k4,e4,z4⟩;have k4:az g4 g3.size 339 (List.replicate 256 (Value.int .i64 0)):=k4;refine aa ?_;refine aY rfl (bM rfl rfl k4 hone) ?_;rintro _ g5 ⟨rfl,k5,x5,z5⟩;have k5:az g5 g3.size 339 (bH r):=by rw[<-Az r];exact k5
     have e5:ah g3 g5:=ah.only e4 x5 (Nat.le_refl _);have ho5:=bF.af ho3 e5;obtain⟨c,hc⟩:∃c,cls[k]? =some c:=⟨_,List.getElem?_eq_getElem (by omega)⟩
     have hgd:cls.getD k 0=c:=by rw[List.getD_eq_getElem?_getD,hc];rfl
     obtain⟨gg,c4,hv4,hgb,hglt,hcell,hfz,hset⟩:=ho5.at hc;rw[hcl] at hv4;have hla:la=some ⟨gg,0,none⟩:=by cases hv4;rfl
     refine bJ ?_;refine aI ?_;refine bU ?_
     iterate 2 refine aU ?_
     refine xp rfl (bT rfl rfl k rfl hla) ?_;refine xp rfl (aA rfl hcell) ?_;have e56:ah g5 (g5.push (.cells #[.int .i64 c] 3)):=Ext.push _ _ _;have hl6:bF (Value.int .i64) (g5.push (.cells #[.int .i64 c] 3)) g5.size 3 (.slice (some ⟨g5.size,0,none⟩) 1 1) [c]:=jD (Value.int .i64) g5 3 [c] 1 rfl (by decide) g5.size (Nat.le_refl _) rfl;refine xo rfl (kI [_]) ?_;rintro _ _ ⟨rfl,rfl⟩;refine aa ?_;generalize g5.push (.cells #[.int .i64 c] 3)=g6 at *;have k6:=k5.af e56;have e36:ah g3 g6:=e5.trans e56;have ho6:=bF.af ho5 e56;have hz5:=e5.size;refine xp rfl (bI rfl k6.row) ?_;refine aa ?_;refine eR (σ:=Nat×Value) (fun q=>[(12,q.2),(60,.int .i64 (q.1:Nat))]) (fun q h'=>ah g3 h'/\bF (Value.int .i64) h' g5.size 3 q.2 (c::(r.v.take q.1).map (de live cls))/\q.1<=256/\g5.size<=h'.size) (fun q=>256-q.1) ((0,.slice (some ⟨g5.size,0,none⟩) 1 1)) ⟨e36,hl6,Nat.zero_le _,e56.size⟩ rfl ?_;rintro⟨j,vl⟩ g7 ⟨e7,hl7,hj,hz7⟩ ih3
     try dsimp only
     dsimp only at hl7 hj;have eg7:=eg3.trans e7;have ho7:=bF.af ho3 e7;have hlen7:(c::(r.v.take j).map (de live cls)).length=j+1:=by simp[r.len];omega
     refine aa ?_;refine aQ (fun hlt3=>?_) (fun hlt3=>?_)
     · have hj2:j<256:=by omega
       obtain⟨t,ht⟩:∃t,r.v[j]? =some t:=⟨_,List.getElem?_eq_getElem (by rw[r.len];exact hj2)⟩
       have htm:=hok.to r (List.mem_of_getElem? hr) t (List.mem_of_getElem? ht);have htr:c::(r.v.take (j+1)).map (de live cls)=(c::(r.v.take j).map (de live cls))++[de live cls t]:=by rw[List.take_add_one,ht];simp
       have hlo:ay g7 g5.size 3 1 vl (c::(r.v.take j).map (de live cls)).length ((c::(r.v.take j).map (de live cls)).map (Value.int .i64)):=hl7;have hlo2:=hlo;rw[hlen7] at hlo2;obtain⟨wa,wc,rfl,_⟩:=hlo2.open;have hl8:bF (Value.int .i64) g7 g5.size 3 (.slice wa (j+1) wc) (c::(r.v.take j).map (de live cls)):=hl7
       have fin:∀v8 g8 x,ay g8 g5.size 3 1 v8 (j+1+1) ((c::(r.v.take j).map (de live cls)).map (Value.int .i64)++[.int .i64 x])->Ext (b8 (Value.slice wa (j+1) wc).ownBlock) g7 g8->x=de live cls t->ah g3 g8/\bF (Value.int .i64) g8 g5.size 3 v8 (c::(r.v.take (j+1)).map (de live cls))/\j+1<=256/\g5.size<=g8.size:=by
        rintro v8 g8 x ho hx rfl;refine⟨bF.grown e7 hl8 hz5 hx,?_,hj2,Nat.le_trans hz7 hx.size⟩;rw[htr];exact bF.of ho hlen7.symm rfl rfl
       refine aa ?_;refine xp rfl (an.sV underlying339 H.fu H.BC rfl rfl j rfl hj2 (show (bH r).toArray[j]? =some (Value.int .i64 t) by simp[bH,ht])) ?_;refine aU ?_;refine bJ ?_;refine aI ?_;refine bU ?_
       iterate 3 refine aU ?_
       refine dx 65 (fun hg=>?_) (fun hg=>?_)
       · have hg':=of_decide_eq_true hg;refine aa ?_;refine fH rfl (by simp) ?_;refine aa ?_;refine xo rfl (kI [_]) ?_;rintro _ _ ⟨rfl,rfl⟩;refine xo rfl (Dr rfl rfl hlo2 rfl rfl) ?_;rintro v8 g8 ⟨ho8,hx8,hx8',hv8⟩;have ff:=fin v8 g8 (-2) ho8 hx8 (tU (.inl hg')).symm;obtain⟨v8a,v8c,rfl,_⟩:=ho8.open;refine aa ?_;exact ih3 (j+1,_) ff
       · have hg':=of_decide_eq_false hg;obtain⟨t2,rfl⟩:=Int.eq_ofNat_of_zero_le (show 0<=t by omega);obtain⟨bt,hbt⟩:∃bt,live[t2]? =some bt:=⟨_,List.getElem?_eq_getElem (by omega)⟩
         have hlt2:live.getD t2 false=bt:=by rw[List.getD_eq_getElem?_getD,hbt];rfl
         obtain⟨oa',n',c',hv',_,_,_,hgetv⟩:=id (hslV.mv (Mv.af eg7));cases hv';obtain⟨b3,o3,cs3,ha3,_,hrow3,rfl⟩:=hgetv t2 bt hbt
         iterate 2 refine aU ?_
         refine xp rfl (bT rfl rfl t2 rfl ha3) ?_;refine xp rfl (aA rfl (hrow3 0 _ rfl)) ?_;refine aa ?_;refine oL (fun hb=>?_) (fun hb=>?_)
         · have hb':bt=false:=by simpa using hb
           refine aa ?_;refine xo rfl (kI [_]) ?_;rintro _ _ ⟨rfl,rfl⟩;refine xo rfl (Dr rfl rfl hlo2 rfl rfl) ?_;rintro v8 g8 ⟨ho8,hx8,hx8',hv8⟩;have ff:=fin v8 g8 (-2) ho8 hx8 (tU (.inr (by show live.getD t2 false=false;rw[hlt2,hb']))).symm;obtain⟨v8a,v8c,rfl,_⟩:=ho8.open;refine aa ?_;exact ih3 (j+1,_) ff
         · have hb':bt=true:=by simpa using hb
           obtain⟨c2,hc2⟩:∃c2,cls[t2]? =some c2:=⟨_,List.getElem?_eq_getElem (by omega)⟩
           have hgd2:cls.getD t2 0=c2:=by rw[List.getD_eq_getElem?_getD,hc2];rfl
           obtain⟨gg2,c42,hv42,hgb2,hglt2,hcell2,hfz2,hset2⟩:=ho7.at hc2;rw[hcl] at hv42;have hla2:la=some ⟨gg2,0,none⟩:=by cases hv42;rfl
           refine bU ?_
           iterate 3 refine aU ?_
           refine xp rfl (bT rfl rfl t2 rfl hla2) ?_;refine xp rfl (aA rfl hcell2) ?_;refine xo rfl (kI [_]) ?_;rintro _ _ ⟨rfl,rfl⟩;refine xo rfl (Dr rfl rfl hlo2 rfl rfl) ?_;rintro v8 g8 ⟨ho8,hx8,hx8',hv8⟩
           have ff:=fin v8 g8 c2 ho8 hx8 (by
            rw[Da (by
             rintro(e|e)
             · exact hg' e
             · rw[Int.toNat_natCast,hlt2,hb'] at e;cases e),Int.toNat_natCast,hgd2])
           obtain⟨v8a,v8c,rfl,_⟩:=ho8.open;refine aa ?_;exact ih3 (j+1,_) ff
     · obtain rfl:j=256:=by omega
       have hkey:c::(r.v.take 256).map (de live cls)=nL d live cls k:=by unfold nL;rw[hgd,hrow,List.take_of_length_le (by rw[r.len];exact Nat.le_refl _)]
       have hkb:=xb (d:=d) (live:=live) hcb k;have hkl:(nL d live cls k).length<=1000000:=by rw[<-hkey,hlen7];decide
       rw[hkey] at hl7;generalize hkk:nL d live cls k=key at *;refine aa ?_;refine xo rfl (aG rfl (oY (O:=fun _=>False) (htens.af eg7) (bF.read (h1:=fun _=>rfl) hl7 (fun _ _ k=>k)) hkl hkb)) ?_;rintro _ g8 ⟨rfl,e8⟩;have e38:ah g3 g8:=e7.trans e8;have eg8:ah g g8:=e3.trans e38;have mp8:=hmp.ext e38 (fun k=>k);have haf8:=bF.af haf e38
       have hk0:(after++List.replicate (d.next.length-k) (0:Int))[k]? =some 0:=by
        rw[List.getElem?_append_right (by omega),List.getElem?_replicate,if_pos (by omega)]
       have hl0:(after++List.replicate (d.next.length-k) (0:Int)).length=d.next.length:=by simp;omega
       have hsetA:∀y:Int,(after++List.replicate (d.next.length-k) (0:Int)).set k y=(after++[y])++List.replicate (d.next.length-(k+1)) 0:=fun y=>by
        rw[List.set_append_right _ _ (by omega),hal,Nat.sub_self,show d.next.length-k=(d.next.length-(k+1))+1 by omega,List.replicate_succ,List.set_cons_zero];simp
       have hz12:=e1'.size
       have fin2:∀(gA gB:ai) (seen':List (List Int)) (y:Int),ah g gA->eJ Value.string (Value.int .i64) gA g.size (fU 0 seen')->bF (Value.int .i64) gB g1.size 3 (.slice (some ⟨g1.size,0,none⟩) d.next.length d.next.length) ((after++List.replicate (d.next.length-k) (0:Int)).set k y)->gB=dD gA ⟨g1.size,0+k*1,none⟩ (.int .i64 y)->bO d live cls m (k+1) seen' (after++[y])=ps->seen'.length<=k+1->ah g gB/\eJ Value.string (Value.int .i64) gB g.size (fU 0 seen')/\bF (Value.int .i64) gB g1.size 3 (.slice (some ⟨g1.size,0,none⟩) d.next.length d.next.length) ((after++[y])++List.replicate (d.next.length-(k+1)) 0)/\(k+1<=d.next.length/\(after++[y]).length=k+1/\seen'.length<=k+1)/\bO d live cls (d.next.length-(k+1)) (k+1) seen' (after++[y])=ps:=by
        rintro gA gB seen' y eA mA hB hgB hcp hsl';have xB:Ext (fun b=>b=g1.size) gA gB:=by rw[hgB];exact Ext.dD _ _ _ rfl
        refine⟨ah.only eA xB hz12,mA.ext xB (by show ¬_=_;omega),?_,⟨hkN,by simp[hal],hsl'⟩,?_⟩
        · rw[<-hsetA];exact hB
        · rw[show d.next.length-(k+1)=m by omega];exact hcp
       refine aa ?_;refine xp rfl (an.sF (z:=.int .i64 0) iJ underlying337 underlying9 (by kernel_rfl) rfl rfl rfl mp8) ?_;rw[jC]
       rcases hfind:kQ 0 seen key with _|i0
       · rw[hfind] at hcon2;simp only at hcon2;have hnone:jG (bs (fD key)) (fU 0 seen)=none:=by rw[jC,hfind];rfl
         refine aa ?_;refine fH rfl (by simp) ?_;refine aa ?_;refine xp rfl (an.CB underlying337 rfl (mp8)) ?_;refine aY rfl (aH.mapUpdate (v:=((fU 0 seen).length:Int)) iJ underlying337 underlying9 rfl rfl rfl rfl rfl mp8 hnone) ?_;rintro _ g9 ⟨rfl,mp9,x9,z9⟩;have mp9:eJ Value.string (Value.int .i64) g9 g.size (fU 0 (seen++[key])):=by rw[rL,Nat.zero_add,<-oQ seen 0];exact mp9
         have hsz8:=eg8.size;have e9:ah g g9:=ah.only eg8 x9 (Nat.le_refl _);have haf9:bF (Value.int .i64) g9 g1.size 3 (.slice (some ⟨g1.size,0,none⟩) d.next.length d.next.length) (after++List.replicate (d.next.length-k) (0:Int)):=ay.ext x9 haf8 (fun b hb (e:b=g.size)=>by have:=(ay.lt haf8 hb).1;omega);obtain⟨gg3,c3,hv3,_,_,hcell3,hfz3,hset3⟩:=haf9.at hk0;rw[hl0] at hv3;cases hv3;have hasc:jG (bs (fD key)) (fU 0 (seen++[key]))=some ((seen.length:Nat):Int):=by rw[jC,tu seen 0 key hfind,Nat.zero_add];rfl
         refine aa ?_;refine xp rfl (an.lookup (z:=.int .i64 0) iJ underlying337 underlying9 (by kernel_rfl) rfl rfl rfl mp9) ?_;rw[hasc,Option.map_some,Option.getD_some];refine xp rfl (bT rfl rfl k rfl rfl) ?_;refine aY rfl (bW H.fu rfl rfl rfl hcell3 hfz3) ?_;rintro _ g10 ⟨rfl,hg10⟩;have hg10:g10=dD g9 ⟨g1.size,0+k*1,none⟩ (.int .i64 ((seen.length:Nat):Int)):=hg10;have hB:=hset3 ((seen.length:Nat):Int);rw[<-hg10] at hB;refine aa ?_;exact ih2 (k+1,seen++[key],after++[((seen.length:Nat):Int)]) (fin2 g9 g10 _ _ e9 mp9 hB hg10 hcon2 (by simp;omega))
       · rw[hfind] at hcon2;simp only at hcon2;refine aa ?_;refine bV rfl (by simp) ?_;obtain⟨gg3,c3,hv3,_,_,hcell3,hfz3,hset3⟩:=haf8.at hk0;rw[hl0] at hv3;cases hv3;have hasc:jG (bs (fD key)) (fU 0 seen)=some ((i0:Nat):Int):=by rw[jC,hfind];rfl
         refine aa ?_;refine xp rfl (an.lookup (z:=.int .i64 0) iJ underlying337 underlying9 (by kernel_rfl) rfl rfl rfl mp8) ?_;rw[hasc,Option.map_some,Option.getD_some];refine xp rfl (bT rfl rfl k rfl rfl) ?_;refine aY rfl (bW H.fu rfl rfl rfl hcell3 hfz3) ?_;rintro _ g10 ⟨rfl,hg10⟩;have hg10:g10=dD g8 ⟨g1.size,0+k*1,none⟩ (.int .i64 ((i0:Nat):Int)):=hg10;have hB:=hset3 ((i0:Nat):Int);rw[<-hg10] at hB;refine aa ?_;exact ih2 (k+1,seen,after++[((i0:Nat):Int)]) (fin2 g8 g10 _ _ eg8 mp8 hB hg10 hcon2 (Nat.le_succ_of_le hsl))
   · obtain rfl:k=d.next.length:=by omega
     rw[Nat.sub_self,List.replicate_zero,List.append_nil] at haf;rw[Nat.sub_self,bO] at hcon2;subst hcon2;dsimp only at hcon hmore hend;have hm:=hend.size;have hsl':(fU 0 seen).length=seen.length:=oQ seen 0
     have ha':bF (Value.int .i64) g3 h.size 3 (.slice (some ⟨g1.size,0,none⟩) d.next.length d.next.length) after:=Dn (show ay g3 g1.size 3 1 _ after.length (after.map (Value.int .i64)) from haf) (fun b hb=>by
      cases hb;have:=eg.size;have:=e1'.size
      show h.size<=g1.size
      omega)
     refine aa ?_;refine xp rfl (an.CB underlying337 rfl (hmp)) ?_;rw[hsl'];refine aa ?_;refine aQ (fun heq=>?_) (fun heq=>?_)
     · rw[if_pos (by omega)] at hcon;refine aa ?_;refine aW ?_;exact⟨_,rfl,by rw[<-hcon];exact ha',eg3⟩
     · rw[if_neg (by omega)] at hcon;refine aa ?_;refine xp rfl (an.CB underlying337 rfl (hmp)) ?_;rw[hsl'];refine aa ?_;exact ih (n,seen.length,_,after) ⟨eg3,ha',hal,fun x hx=>by have:=hend.bound x hx;omega,⟨by show seen.length<=_;omega,hend.nums,by show _<=n+seen.length;omega⟩,hcon⟩
end
end Go.Proofs.YtckomlgchbkekaaGreatDoor
namespace Go.Proofs.YtckomlgchbkekaaGreatDoor
open Go Go.Lw
set_option maxRecDepth 20000
section
variable {v3:Value}{n:Nat}
def js (cls:List Int):Nat->List Nat->List (Int×Int)
 |_,[]=>[]
 |i,x::r=>(cls.getD x 0,(i:Int))::js cls (i+1) r
theorem rM (cls:List Int):∀(ls:List Nat) (i:Nat) (l:Nat),js cls i (ls++[l])=js cls i ls++[(cls.getD l 0,((i+ls.length:Nat):Int))]
 | [],i,l=>by simp[js]
 |x::r,i,l=>by
  simp only[List.cons_append,js];rw[rM cls r (i+1) l,List.length_cons,show i+1+r.length=i+(r.length+1) by omega]
theorem pF (cls:List Int):∀(ls:List Nat) (i:Nat) (c:Int),jG c (js cls i ls)=(qi cls i ls c).map fun j=>(j:Int)
 | [],i,c=>rfl
 |x::r,i,c=>by
  rw[js,jG,qi]
  by_cases h:c=cls.getD x 0
  · rw[if_pos h,if_pos h];rfl
  · rw[if_neg h,if_neg h];exact pF cls r (i+1) c
structure dA (h0 h:ai) (cls:List Int) (db mb:Nat) (vo vn vr:Value) (of:List Nat) (next:List Row) (rule:List Int):Prop where
 ext:ah h0 h
 dblk:az h db 335 [vn,vr]
 nx:eP 256 bH h h0.size 339 vn next
 ru:bF (Value.int .i64) h h0.size 3 vr rule
 ol:bF cJ h h0.size 3 vo of
 mp:eJ (Value.int .i64) (Value.int .i64) h mb (js cls 0 of)
 ne:∀b,vo.ownBlock=some b->vr.ownBlock≠some b
 dge:h0.size<=db
 mge:h0.size<=mb
section
variable {h0 h:ai}{cls:List Int}{db mb:Nat}{vo vn vr:Value}{of:List Nat}{next:List Row}{rule:List Int}
theorem dA.EN (k:dA h0 h cls db mb vo vn vr of next rule):∀b,vn.ownBlock=some b->cq h b 339:=fun _ hb=>ay.ty k.nx hb
theorem dA.DE (k:dA h0 h cls db mb vo vn vr of next rule):∀b,vr.ownBlock=some b->cq h b 3:=fun _ hb=>ay.ty k.ru hb
theorem dA.MT (k:dA h0 h cls db mb vo vn vr of next rule):∀b,vo.ownBlock=some b->cq h b 3:=fun _ hb=>ay.ty k.ol hb
theorem dA.af {h':ai}(k:dA h0 h cls db mb vo vn vr of next rule) (e:ah h h'):dA h0 h' cls db mb vo vn vr of next rule :=
 ⟨k.ext.trans e,k.dblk.af e,eP.af k.nx e,bF.af k.ru e,bF.af k.ol e,k.mp.ext e (fun k=>k),k.ne,k.dge,k.mge⟩
theorem dA.put {h':ai}{x:Nat}(k:dA h0 h cls db mb vo vn vr of next rule) (e:Ext (fun b=>b=x) h h') (hx:cq h x 339) (hn:vn.ownBlock≠some x) (hge:h0.size<=x):dA h0 h' cls db mb vo vn vr of next rule:=by
 have hd:¬db=x:=k.dblk.ty.ne hx (by decide);have hm:¬mb=x:=k.mp.ne hx;exact⟨ah.only k.ext e hge,k.dblk.ext e hd,ay.ext e k.nx (fun b hb hbx=>hn (by subst hbx;exact hb)),ay.ext e k.ru (fun b hb=>(k.DE b hb).ne hx (by decide)),ay.ext e k.ol (fun b hb=>(k.MT b hb).ne hx (by decide)),k.mp.ext e hm,k.ne,k.dge,k.mge⟩
theorem dA.KK {g3 g4:ai}{r:Row}(k:dA h0 h cls db mb vo vn vr of next rule) (hn:n=next.length) (ho:ay g3 h0.size 339 256 v3 (n+1) (next.flatMap bH++bH r)) (hx:Ext (b8 vn.ownBlock) h g3) (hd:az g4 db 335 [v3,vr]) (x4:Ext (fun b=>b=db) g3 g4) :
 dA h0 g4 cls db mb vo v3 vr of (next++[r]) rule:=by
 have nne:∀{b:Nat}{t:TypeId},cq h b t->339≠t->¬b8 vn.ownBlock b:=fun kt ht e=>(k.EN _ e.symm).ne kt ht rfl
 have d3:=k.dblk.ext hx (nne k.dblk.ty (by decide));have dne:∀{b:Nat}{t:TypeId},cq g3 b t->335≠t->¬b=db:=fun kt ht e=>by subst e;exact d3.ty.ne kt ht rfl
 have mne:¬b8 vn.ownBlock mb:=fun e=>k.mp.ne (k.EN _ e.symm) rfl
 have hm3:=k.mp.ext hx mne;have ru3:=ay.ext hx k.ru (fun b hb=>nne (k.DE b hb) (by decide));have of3:=ay.ext hx k.ol (fun b hb=>nne (k.MT b hb) (by decide));refine⟨⟨by have:=k.ext.size;have:=hx.size;have:=x4.size;omega,fun b hb kk=>?_⟩,hd,?_,ay.ext x4 ru3 (fun b hb=>dne (ay.ty ru3 hb) (by decide)),ay.ext x4 of3 (fun b hb=>dne (ay.ty of3 hb) (by decide)),hm3.ext x4 (hm3.ne d3.ty),k.ne,k.dge,k.mge⟩
 · rw[x4.block b (by have:=k.ext.size;have:=hx.size;omega) (by have:=k.dge;omega),hx.block b (by have:=k.ext.size;omega) (fun e=>by have:=(ay.lt k.nx e.symm).1;omega)];exact k.ext.block b hb kk
 · exact ay.ext x4 (eP.of ho hn rfl) (fun b hb=>dne (ay.ty ho hb) (by decide))
theorem dA.KJ {g3 g4:ai}{x:Int}(k:dA h0 h cls db mb vo vn vr of next rule) (hn:n=rule.length) (ho:ay g3 h0.size 3 1 v3 (n+1) (rule.map (Value.int .i64)++[.int .i64 x])) (hx:Ext (b8 vr.ownBlock) h g3) (hv:∀b,v3.ownBlock=some b->vr.ownBlock=some b\/h.size<=b) (hd:az g4 db 335 [vn,v3]) (x4:Ext (fun b=>b=db) g3 g4) :
 dA h0 g4 cls db mb vo vn v3 of next (rule++[x]):=by
 have nne:∀{b:Nat}{t:TypeId},cq h b t->3≠t->¬b8 vr.ownBlock b:=fun kt ht e=>(k.DE _ e.symm).ne kt ht rfl
 have d3:=k.dblk.ext hx (nne k.dblk.ty (by decide));have dne:∀{b:Nat}{t:TypeId},cq g3 b t->335≠t->¬b=db:=fun kt ht e=>by subst e;exact d3.ty.ne kt ht rfl
 have mne:¬b8 vr.ownBlock mb:=fun e=>k.mp.ne (k.DE _ e.symm) rfl
 have hm3:=k.mp.ext hx mne;have nx3:=ay.ext hx k.nx (fun b hb=>nne (k.EN b hb) (by decide));have of3:=ay.ext hx k.ol (fun b hb e=>k.ne b hb e.symm);refine⟨⟨by have:=k.ext.size;have:=hx.size;have:=x4.size;omega,fun b hb kk=>?_⟩,hd,ay.ext x4 nx3 (fun b hb=>dne (ay.ty nx3 hb) (by decide)),?_,ay.ext x4 of3 (fun b hb=>dne (ay.ty of3 hb) (by decide)),hm3.ext x4 (hm3.ne d3.ty),fun b hb e=>?_,k.dge,k.mge⟩
 · rw[x4.block b (by have:=k.ext.size;have:=hx.size;omega) (by have:=k.dge;omega),hx.block b (by have:=k.ext.size;omega) (fun e=>by have:=(ay.lt k.ru e.symm).1;omega)];exact k.ext.block b hb kk
 · exact ay.ext x4 (bF.of (ys:=[x]) ho hn rfl rfl) (fun b hb=>dne (ay.ty ho hb) (by decide))
 · rcases hv b e with e|e
   · exact k.ne b hb e
   · have:=(k.MT b hb).lt;omega
theorem dA.more {g1 g2:ai}{t:Nat}(k:dA h0 h cls db mb vo vn vr of next rule) (x1:Ext (fun b=>b=mb) h g1) (hm:eJ (Value.int .i64) (Value.int .i64) g1 mb (js cls 0 (of++[t]))) (hn:n=of.length) (ho:ay g2 h0.size 3 1 v3 (n+1) (of.map cJ++[cJ t])) (hx:Ext (b8 vo.ownBlock) g1 g2) (hv:∀b,v3.ownBlock=some b->vo.ownBlock=some b\/g1.size<=b) :
 dA h0 g2 cls db mb v3 vn vr (of++[t]) next rule:=by
 have mne:∀{b:Nat}{t:TypeId},cq h b t->¬b=mb:=fun kt e=>k.mp.ne kt e.symm
 have d1:=k.dblk.ext x1 (mne k.dblk.ty);have nx1:=ay.ext x1 k.nx (fun b hb=>mne (k.EN b hb));have ru1:=ay.ext x1 k.ru (fun b hb=>mne (k.DE b hb));have of1:=ay.ext x1 k.ol (fun b hb=>mne (k.MT b hb));have one:∀{b:Nat}{t:TypeId},cq g1 b t->3≠t->¬b8 vo.ownBlock b:=fun kt ht e=>(show cq g1 _ 3 from ay.ty of1 e.symm).ne kt ht rfl
 refine⟨⟨by have:=k.ext.size;have:=hx.size;have:=x1.size;omega,fun b hb kk=>?_⟩,d1.ext hx (one d1.ty (by decide)),ay.ext hx nx1 (fun b hb=>one (ay.ty nx1 hb) (by decide)),ay.ext hx ru1 (fun b hb e=>k.ne b e.symm hb),bF.of (ys:=[t]) ho hn rfl rfl,hm.ext hx (fun e=>hm.ne (ay.ty of1 e.symm) rfl),fun b hb e=>?_,k.dge,k.mge⟩
 · rw[hx.block b (by have:=k.ext.size;have:=x1.size;omega) (fun e=>by have:=(ay.lt k.ol e.symm).1;omega),x1.block b (by have:=k.ext.size;omega) (by have:=k.mge;omega)];exact k.ext.block b hb kk
 · rcases hv b hb with e'|e'
   · exact k.ne b e' e
   · have:=(show cq g1 _ 3 from ay.ty ru1 e).lt;omega
end
end
end Go.Proofs.YtckomlgchbkekaaGreatDoor
namespace Go.Proofs.YtckomlgchbkekaaGreatDoor
open Go.Proofs.Tryz
open Go Go.Lw
set_option maxRecDepth 20000 set_option maxHeartbeats 4000000
theorem vW (d:gY):∀(n:Nat) (out:List Bool),(vX d n out).length=out.length
 | 0,_=>rfl
 |n+1,out=>by
  rw[vX];split
  · rw[vW d n,iq]
  · rw[iq]
theorem ER (d:gY):(pZ d).length=d.next.length:=by rw[pZ,vW];simp
theorem tO (d:gY) (live:List Bool):∀(n many:Nat) (cls:List Int),cls.length=d.next.length->(o7 d live n many cls).length=d.next.length
 | 0,_,_,h=>h
 |n+1,many,cls,h=>by
  rw[o7];split
  · exact(gK d live cls).len
  · exact tO d live n _ _ (gK d live cls).len
theorem C0 (d:gY) (live:List Bool) (h:d.rule.length=d.next.length):(tN d live).length=d.next.length:=tO d live _ _ _ h
def pI (h:ai) (O:Nat->Prop) (db:Nat) (d:gY):Prop :=
 ∃vn vr,¬O db/\az h db 335 [vn,vr]/\aR D2 h O vn d.next/\aR (.int .i64) h O vr d.rule
theorem pI.mv {h h':ai}{O O':Nat->Prop}{db:Nat}{d:gY}(k:pI h O db d) (m:Mv O O' h h'):pI h' O' db d:=by
 obtain⟨vn,vr,ho,hk,h1,h2⟩:=k;have hm:=m.block db hk.lt ho;exact⟨vn,vr,hm.2,hm.1.trans hk,h1.mv m,h2.mv m⟩
theorem Hv {h:ai}{db:Nat}{d:gY}(htens:kY h) (k:qy h db d) (hok:d.Ok) (hd0:0<d.next.length) :
 aj Tryz.prog 157 #[.pointer (some ⟨db,0,none⟩)] h (aN fun r h'=>(∃b,r= .pointer (some ⟨b,0,none⟩)/\pI h' (fun g=>g<h.size) b (Cs d))/\ah h h'):=by
 have hlen:=hok.len;have hsize:=hok.size;generalize hres:Cs d=res;refine bf ?_;refine aa ?_;refine xo rfl (aG rfl (Hu k)) ?_;rintro _ h0 ⟨rfl,hh0⟩;subst hh0;refine aa ?_;refine aQ (fun hz=>?_) (fun hz=>?_)
 · refine aa ?_;refine aW ?_;exfalso;omega
 · rw[Cs,if_neg hz] at hres;have hll:=ER d;have hcl:=C0 d (pZ d) hlen;refine aa ?_;refine xo rfl (aG rfl (Cy k hok)) ?_;rintro w3 h1 ⟨ho1,e1⟩;generalize pZ d=live at *;obtain⟨la,lc,rfl,_⟩:=(show ay h1 h0.size 4 1 w3 live.length (live.map Value.bool) from ho1).open;refine aa ?_;refine xo rfl (aG rfl (uO (htens.af e1) (k.af e1) hok (bF.read (O:=fun _=>False) (h1:=fun _=>rfl) ho1 (fun _ _ k=>k)) hll)) ?_;rintro w4 h2 ⟨ho2,e2⟩;generalize tN d live=cls at *;obtain⟨ca,cc,rfl,_⟩:=(show ay h2 h1.size 3 1 w4 cls.length (cls.map (Value.int .i64)) from ho2).open;have ho1:=bF.af ho1 e2;have k2:=(k.af e1).af e2;have hsV:aR .bool h2 (fun _=>False) (.slice la live.length lc) live:=bF.read (h1:=fun _=>rfl) ho1 (fun _ _ k=>k);have hsC:aR (.int .i64) h2 (fun _=>False) (.slice ca cls.length cc) cls:=bF.read (h1:=fun _=>rfl) ho2 (fun _ _ k=>k);rw[hll] at hsV;rw[hcl] at hsC;rw[hll,hcl];obtain⟨c0,hc0⟩:∃c0,cls[0]? =some c0:=⟨_,List.getElem?_eq_getElem (by omega)⟩
   have hcd0:cls.getD 0 0=c0:=by rw[List.getD_eq_getElem?_getD,hc0];rfl
   refine aa ?_;refine xp rfl (au (H.HL ) rfl) ?_;refine xo rfl (cM) ?_;rintro _ h3 ⟨rfl,kd3,e3,z3⟩;refine aa ?_;refine xo rfl (lY (ek:=Value.int .i64) (ev:=Value.int .i64)) ?_;rintro _ h4 ⟨rfl,hm4,e4,z4⟩;have kd3:az h3 h2.size 335 [.slice none 0 0,.slice none 0 0]:=kd3;have e34:=e3.trans e4;obtain⟨oa',n',c',hv',_,_,_,hgetc⟩:=id (hsC.mv (Mv.af e34));cases hv';obtain⟨b3,o3,cs3,ha3,_,hrow3,rfl⟩:=hgetc 0 c0 hc0;refine aU ?_;refine xp rfl (bT rfl rfl 0 rfl ha3) ?_;refine xp rfl (aA rfl (hrow3 0 _ rfl)) ?_;refine aY rfl (um (v:=(0:Int)) (iK.int .i64) underlying345 underlying3 rfl rfl rfl rfl rfl hm4 (rfl:jG c0 []=none)) ?_;rintro _ h5 ⟨rfl,hm5,x5,z5⟩;have hm5:eJ (Value.int .i64) (Value.int .i64) h5 h3.size (js cls 0 [0]):=by rw[js,hcd0];exact hm5
   have hz3:=e3.size;have e25:ah h2 h5:=ah.only e34 x5 hz3;have kd5:az h5 h2.size 335 [.slice none 0 0,.slice none 0 0]:=(kd3.af e4).ext x5 (by show ¬_=_;omega);refine aa ?_;refine xo rfl (kI [_]) ?_;rintro _ _ ⟨rfl,rfl⟩;refine aa ?_;have e56:ah h5 (h5.push (.cells #[.int .i64 0] 3)):=Ext.push _ _ _;have ol6:bF cJ (h5.push (.cells #[.int .i64 0] 3)) h2.size 3 (.slice (some ⟨h5.size,0,none⟩) 1 1) [0]:=jD cJ h5 3 [0] 1 rfl (by decide) h2.size e25.size rfl;generalize h5.push (.cells #[.int .i64 0] 3)=h6 at *
   have mk6:dA h2 h6 cls h2.size h3.size (.slice (some ⟨h5.size,0,none⟩) 1 1) (.slice none 0 0) (.slice none 0 0) [0] [] [] :=
    ⟨e25.trans e56,kd5.af e56,eP.nil _ _ _ _ _,bF.nil _ _ _ _,ol6,hm5.ext e56 (fun k=>k),fun b _ hb=>(by cases hb),Nat.le_refl _,hz3⟩
   refine eR (σ:=Nat×Value) (fun q=>[(7,q.2),(8,.int .i64 (q.1:Nat))]) (fun q h'=>∃vn vr of next rule,dA h2 h' cls h2.size h3.size q.2 vn vr of next rule/\q.1<=of.length/\Dp d.next.length of/\(next.length=q.1/\rule.length=q.1)/\GJ d live cls (d.next.length+1-q.1) q.1 of next rule=res) (fun q=>d.next.length+1-q.1) ((0,.slice (some ⟨h5.size,0,none⟩) 1 1)) ⟨_,_,[0],[],[],mk6,Nat.zero_le _,⟨by simp,fun x hx=>by simp at hx;omega⟩,⟨rfl,rfl⟩,hres⟩ rfl ?_;rintro⟨i,vl⟩ g ⟨vn,vr,of,next,rule,mk,hi,hok2,⟨hnl,hrl⟩,hcon⟩ ih
   try dsimp only
   dsimp only at mk hi hnl hrl hcon;have hofl:=hok2.len;obtain⟨oa,oc,rfl,_⟩:=(show ay g h2.size 3 1 vl of.length (of.map cJ) from mk.ol).open;have mkg:=mk;refine aa ?_;refine aQ (fun hlt=>?_) (fun hlt=>?_)
   · have hil:i<of.length:=by omega
     obtain⟨kk,hcur⟩:∃kk,of[i]? =some kk:=⟨_,List.getElem?_eq_getElem hil⟩
     have hkN:=hok2.lt kk (List.mem_of_getElem? hcur);obtain⟨n,hnn⟩:∃n,d.next.length+1-i=n+1:=⟨d.next.length-i,by omega⟩
     rw[hnn,GJ,hcur] at hcon;simp only at hcon;obtain⟨r,hr⟩:∃r,d.next[kk]? =some r:=⟨_,List.getElem?_eq_getElem hkN⟩
     have hrow:d.row kk=r.v:=by unfold gY.row;rw[hr]
     rw[hrow] at hcon;generalize htgt:lN live cls r.v of []=tgt at hcon;refine aa ?_;refine xo rfl (cC) ?_;rintro _ g1 ⟨rfl,kz,ez,zz⟩;have kz:az g1 g.size 339 (([]:List Int).map (Value.int .i64)++List.replicate (256-0) (Value.int .i64 0)):=kz;have KY:=mk.af ez;have hvz:vn.ownBlock≠some g.size:=fun e=>by have:=(mk.EN _ e).lt;omega
     obtain⟨vn0,vr0,kd,⟨na,nn,nc,rfl,hnl0,hnc,hnm,hgetn⟩,hsR⟩:=id (k2.af KY.ext);subst hnl0;obtain⟨b1,o1,cs1,ha1,_,hrow1,rfl⟩:=hgetn kk r hr;obtain⟨gg,c4,hv4,_,_,hcell,_,_⟩:=KY.ol.at hcur;have hoa:oa=some ⟨gg,0,none⟩:=by cases hv4;rfl
     refine aa ?_;refine bP rfl (aA rfl (kd.cell (i:=0) rfl)) ?_
     iterate 2 refine mU ?_
     refine bP rfl (bT rfl rfl i rfl hoa) ?_;refine bP rfl (aA rfl hcell) ?_;refine bP rfl (bT rfl rfl kk rfl ha1) ?_;refine bP rfl (bI rfl hrow1) ?_;refine aa ?_;refine eR (σ:=Nat×Value) (fun q=>[(7,q.2),(45,.int .i64 (q.1:Nat))]) (fun q h'=>∃of' row,dA h2 h' cls h2.size h3.size q.2 vn vr of' next rule/\(q.1<=256/\row.length=q.1)/\az h' g.size 339 (row.map (Value.int .i64)++List.replicate (256-q.1) (Value.int .i64 0))/\of'[i]? =some kk/\Dp d.next.length of'/\lN live cls (r.v.drop q.1) of' row=tgt) (fun q=>256-q.1) ((0,.slice oa of.length oc)) ⟨of,[],KY,⟨Nat.zero_le _,rfl⟩,kz,hcur,hok2,htgt⟩ rfl ?_;rintro⟨b,vl⟩ g2 ⟨of,row,mk,⟨hb,hrlen⟩,kz,hcur,hok2,hrow⟩ ih2
     try dsimp only
     dsimp only at mk hb hrlen kz hrow;have hofl:=hok2.len;obtain⟨oa,oc,rfl,_⟩:=(show ay g2 h2.size 3 1 vl of.length (of.map cJ) from mk.ol).open;refine aa ?_;refine aQ (fun hb256=>?_) (fun hb256=>?_)
     · have hb2:b<256:=by omega
       obtain⟨t,ht⟩:∃t,r.v[b]? =some t:=⟨_,List.getElem?_eq_getElem (by rw[r.len];exact hb2)⟩
       have htm:=hok.to r (List.mem_of_getElem? hr) t (List.mem_of_getElem? ht);have hdrop:r.v.drop b=t::r.v.drop (b+1):=by rw[List.drop_eq_getElem_cons (by rw[r.len];exact hb2),(List.getElem?_eq_some_iff.1 ht).2]
       rw[hdrop,lN] at hrow;have hso:=Cq (live:=live) (cls:=cls) (t:=t) hok2 htm.2;have hsg:=(Cr (live:=live) (cls:=cls) (of:=of) (t:=t)).2 i kk hcur;have hcells:(row.map (Value.int .i64)++List.replicate (256-b) (Value.int .i64 0)).length=256:=by simp[hrlen];omega
       have hset:∀to:Int,(row.map (Value.int .i64)++List.replicate (256-b) (Value.int .i64 0)).set (0+b*1) (.int .i64 to)=(row++[to]).map (Value.int .i64)++List.replicate (256-(b+1)) (Value.int .i64 0):=fun to=>by
        rw[Nat.zero_add,Nat.mul_one,List.set_append_right _ _ (by simp;omega),show 256-b=(256-(b+1))+1 by omega,List.replicate_succ];have:b-(row.map (Value.int .i64)).length=0:=by simp;omega
        rw[this,List.set_cons_zero];simp
       have hblt:0+b*1<(row.map (Value.int .i64)++List.replicate (256-b) (Value.int .i64 0)).length:=by rw[hcells];omega
       have hzge:h2.size<=g.size:=mkg.ext.size
       have fin:∀(gA gB:ai) (vA:Value) (ofA:List Nat) (to:Int),dA h2 gA cls h2.size h3.size vA vn vr ofA next rule->az gA g.size 339 (row.map (Value.int .i64)++List.replicate (256-b) (Value.int .i64 0))->gB=dD gA ⟨g.size,0+b*1,none⟩ (.int .i64 to)->eU live cls of t=(ofA,to)->∃of' row,dA h2 gB cls h2.size h3.size vA vn vr of' next rule/\(b+1<=256/\row.length=b+1)/\az gB g.size 339 (row.map (Value.int .i64)++List.replicate (256-(b+1)) (Value.int .i64 0))/\of'[i]? =some kk/\Dp d.next.length of'/\lN live cls (r.v.drop (b+1)) of' row=tgt:=by
        rintro gA gB vA ofA to mA kA hgB hst;have k6:=kA.set (0+b*1) (.int .i64 to);rw[<-hgB,hset] at k6;have x6:Ext (fun y=>y=g.size) gA gB:=by rw[hgB];exact Ext.dD _ _ _ rfl
        rw[hst] at hso hsg hrow;exact⟨ofA,row++[to],mA.put x6 kA.ty hvz hzge,⟨hb2,by simp[hrlen]⟩,k6,hsg,hso,hrow⟩
       refine aa ?_;refine xp rfl (an.sV underlying339 H.fu H.BC rfl rfl b rfl hb2 (show (bH r).toArray[b]? =some (Value.int .i64 t) by simp[bH,ht])) ?_
       iterate 2 refine aU ?_
       refine bJ ?_
       iterate 2 refine aI ?_
       refine bU ?_
       iterate 3 refine aU ?_
       refine dx 51 (fun hg=>?_) (fun hg=>?_)
       · have hg':=of_decide_eq_true hg;refine aa ?_;refine fH rfl (by simp) ?_;refine aI ?_;refine bU ?_;refine aU ?_;refine xp rfl (Ds rfl rfl b rfl (by omega)) ?_;refine aY rfl (bW H.fu rfl rfl rfl (kz.cell (List.getElem?_eq_getElem hblt)) kz.nf) ?_;rintro _ g6 ⟨rfl,hg6⟩;have ff:=fin g2 g6 _ of (-1) mk kz hg6 (by rw[eU,if_pos (.inl hg')]);refine aa ?_;exact ih2 (b+1,_) ff
       · have hg':=of_decide_eq_false hg;obtain⟨t2,rfl⟩:=Int.eq_ofNat_of_zero_le (show 0<=t by omega);obtain⟨bt,hbt⟩:∃bt,live[t2]? =some bt:=⟨_,List.getElem?_eq_getElem (by omega)⟩
         have hlt2:live.getD t2 false=bt:=by rw[List.getD_eq_getElem?_getD,hbt];rfl
         obtain⟨oa',n',c',hv',_,_,_,hgetv⟩:=id (hsV.mv (Mv.af mk.ext));cases hv';obtain⟨b3,o3,cs3,ha3,_,hrow3,rfl⟩:=hgetv t2 bt hbt
         iterate 2 refine aU ?_
         refine xp rfl (bT rfl rfl t2 rfl ha3) ?_;refine xp rfl (aA rfl (hrow3 0 _ rfl)) ?_;refine aa ?_;refine oL (fun hb=>?_) (fun hb=>?_)
         · have hb':bt=false:=by simpa using hb
           refine aI ?_;refine bU ?_;refine aU ?_;refine xp rfl (Ds rfl rfl b rfl (by omega)) ?_;refine aY rfl (bW H.fu rfl rfl rfl (kz.cell (List.getElem?_eq_getElem hblt)) kz.nf) ?_;rintro _ g6 ⟨rfl,hg6⟩;have ff:=fin g2 g6 _ of (-1) mk kz hg6 (by rw[eU,if_pos (.inr (by show live.getD t2 false=false;rw[hlt2,hb']))]);refine aa ?_;exact ih2 (b+1,_) ff
         · have hb':bt=true:=by simpa using hb
           obtain⟨c2,hc2⟩:∃c2,cls[t2]? =some c2:=⟨_,List.getElem?_eq_getElem (by omega)⟩
           have hgd2:cls.getD t2 0=c2:=by rw[List.getD_eq_getElem?_getD,hc2];rfl
           have hneg:¬(((t2:Nat):Int)<0\/live.getD ((t2:Nat):Int).toNat false=false):=by
            rintro(e|e)
            · exact hg' e
            · rw[Int.toNat_natCast,hlt2,hb'] at e;cases e
           have hstep:eU live cls of ((t2:Nat):Int)=match qi cls 0 of c2 with|some i=>(of,(i:Int))|none=>(of++[t2],(of.length:Int)):=by
            rw[eU,if_neg hneg,Int.toNat_natCast,hgd2]<;>rfl
           obtain⟨oa',n',c',hv',_,_,_,hgetc⟩:=id (hsC.mv (Mv.af mk.ext));cases hv';obtain⟨b4,o4,cs4,ha4,_,hrow4,rfl⟩:=hgetc t2 c2 hc2
           iterate 2 refine aI ?_
           refine bU ?_
           iterate 3 refine aU ?_
           refine xp rfl (bT rfl rfl t2 rfl ha4) ?_;refine xp rfl (aA rfl (hrow4 0 _ rfl)) ?_;refine xp rfl (an.sF (z:=.int .i64 0) (iK.int .i64) underlying345 underlying3 (by kernel_rfl) rfl rfl rfl mk.mp) ?_;rw[pF]
           rcases hfind:qi cls 0 of c2 with _|i0
           · rw[hfind] at hstep;simp only at hstep;have hnone:jG c2 (js cls 0 of)=none:=by rw[pF,hfind];rfl
             refine aa ?_;refine fH rfl (by simp) ?_;refine aI ?_;refine bU ?_
             iterate 3 refine aU ?_
             refine bJ ?_;refine aI ?_;refine bU ?_
             iterate 3 refine aU ?_
             refine xp rfl (bT rfl rfl t2 rfl ha4) ?_;refine xp rfl (aA rfl (hrow4 0 _ rfl)) ?_;refine aa ?_;refine aY rfl (aH.mapUpdate (v:=((of.length:Nat):Int)) (iK.int .i64) underlying345 underlying3 rfl rfl rfl rfl rfl mk.mp hnone) ?_;rintro _ g3 ⟨rfl,hm3,x3,z3'⟩;have hm3:eJ (Value.int .i64) (Value.int .i64) g3 h3.size (js cls 0 (of++[t2])):=by rw[rM,Nat.zero_add,hgd2];exact hm3
             have mne:∀{b:Nat}{t:TypeId},cq g2 b t->¬b=h3.size:=fun kt e=>mk.mp.ne kt e.symm
             have ol3:ay g3 h2.size 3 1 (.slice oa of.length oc) of.length (of.map cJ):=ay.ext x3 mk.ol (fun b hb=>mne (mk.MT b hb));have kz3:=kz.ext x3 (mne kz.ty);have hz2g:=mk.ext.size;refine aa ?_;refine xo rfl (kI [_]) ?_;rintro _ _ ⟨rfl,rfl⟩;refine xo rfl (Dr rfl rfl ol3 rfl rfl) ?_;rintro v7 g4 ⟨ho4,hx4,hx4',hv4⟩;have mk4:=mk.more (t:=t2) x3 hm3 rfl ho4 hx4 hv4;have kz4:=kz3.ext hx4 (fun e=>(show cq g3 _ 3 from ay.ty ol3 e.symm).ne kz3.ty (by decide) rfl);obtain⟨v7a,v7c,rfl,_⟩:=ho4.open;refine aU ?_;refine bJ ?_;refine bU ?_
             iterate 2 refine aU ?_
             refine xp rfl (Ds rfl rfl b rfl (by omega)) ?_;refine aY rfl (bW H.fu rfl rfl rfl (kz4.cell (List.getElem?_eq_getElem hblt)) kz4.nf) ?_;rintro _ g6 ⟨rfl,hg6⟩;have ff:=fin g4 g6 _ (of++[t2]) (of.length:Nat) mk4 kz4 hg6 hstep;refine aa ?_;exact ih2 (b+1,_) ff
           · rw[hfind] at hstep;simp only at hstep;refine aa ?_;refine bV rfl (by simp) ?_;refine aI ?_;refine bU ?_
             iterate 2 refine aU ?_
             refine xp rfl (Ds rfl rfl b rfl (by omega)) ?_;refine aY rfl (bW H.fu rfl rfl rfl (kz.cell (List.getElem?_eq_getElem hblt)) kz.nf) ?_;rintro _ g6 ⟨rfl,hg6⟩;have ff:=fin g2 g6 _ of (i0:Nat) mk kz hg6 hstep;refine aa ?_;exact ih2 (b+1,_) ff
     · obtain rfl:b=256:=by omega
       rw[List.drop_of_length_le (by rw[r.len];exact Nat.le_refl _),lN] at hrow;subst hrow;simp only at hcon;have hencr:bH (iS row)=row.map (Value.int .i64):=by rw[bH,xU hrlen]
       rw[Nat.sub_self,List.replicate_zero,List.append_nil,<-hencr] at kz;have hil2:i<of.length:=(List.getElem?_eq_some_iff.1 hcur).1
       have nne:∀{b:Nat}{t:TypeId},cq g2 b t->339≠t->¬(b8 vn.ownBlock b\/Array.size g2<=b):=fun kt ht e=>by
        rcases e with e|e
        · exact(mk.EN _ e.symm).ne kt ht rfl
        · have:=kt.lt;omega
       have hzM:¬(b8 vn.ownBlock g.size\/Array.size g2<=g.size):=by
        rintro(e|e)
        · exact hvz e.symm
        · have:=kz.lt;omega
       have hdM:=nne mk.dblk.ty (by decide);have hnx:ay g2 h2.size 339 256 vn next.length (next.flatMap bH):=mk.nx
       have hone:∀u∈bH (iS row),u.oneCell'=true:=fun u hu=>by simp[bH] at hu;obtain⟨_,_,rfl⟩:=hu;rfl
       have hg2:=mk.ext.size;refine aa ?_;refine uq 11 (fun b=>b8 vn.ownBlock b\/Array.size g2<=b) (fun i=>Nat.blt i 10) ?_;refine ax 0 ?_;refine ax 1 ?_;refine ax 2 ?_;refine ax 3 ?_;refine aS 4 rfl (fun h' e=>aA rfl (e.cell hdM (mk.dblk.cell (i:=0) rfl))) ?_;refine aS 5 rfl (fun h' e=>bI rfl (e.rowAt hzM kz.row)) ?_;refine ct 6 rfl (aH.tQ (cs:=bH (iS row)) underlying333 H.D1 rfl (j7 _) (by decide)) ?_;rintro _ _ ⟨rfl,rfl⟩;refine⟨fun _=>(Ext.push _ _ _),?_⟩;refine ct 7 rfl (aH.wC underlying333 H.D1 rfl rfl hnx rfl (by simp) hone (by simp only[maxLen];omega) (by omega) hg2) ?_;rintro v3 g3 ⟨ho3,hx3,hx3',hv3⟩;refine⟨fun _=>hx3'.mono (fun _ _ k=>.inl k),?_⟩;obtain⟨a3,c3,rfl,_⟩:=ho3.open;refine BO 8 ?_;refine ax 9 ?_;refine eK 10 rfl (b7 rfl rfl ((mk.dblk.ext hx3 (fun e=>hdM (.inl e))))) ?_;rintro _ g4 ⟨rfl,k4,x4,z4⟩;refine⟨nofun,?_⟩;have mk4:=mk.KK (r:=iS row) rfl ho3 hx3 k4 x4;obtain⟨vn0,vr0,kd4,_,⟨ra,rn,rc,rfl,hrl0,hrc,hrm,hgetr⟩⟩:=id k2;obtain⟨x,hx⟩:∃x,d.rule[kk]? =some x:=⟨_,List.getElem?_eq_getElem (by omega)⟩
       have hru0:d.ru kk=x:=by unfold gY.ru;rw[List.getD_eq_getElem?_getD,hx];rfl
       obtain⟨b5,o5,cs5,ha5,hO5,hrow5,rfl⟩:=hgetr kk x hx;obtain⟨gg5,c5,hv5,_,_,hcell5,_,_⟩:=mk4.ol.at hcur;have hoa5:oa=some ⟨gg5,0,none⟩:=by cases hv5;rfl
       have rne:∀{b:Nat}{t:TypeId},cq g4 b t->3≠t->¬(b8 vr.ownBlock b\/Array.size g4<=b):=fun kt ht e=>by
        rcases e with e|e
        · exact(mk4.DE _ e.symm).ne kt ht rfl
        · have:=kt.lt;omega
       have hdM4:=rne mk4.dblk.ty (by decide);have hru:ay g4 h2.size 3 1 vr rule.length (rule.map (Value.int .i64)):=mk4.ru;have hg4s:=mk4.ext.size
       have olb:∀{b:Nat},b<h2.size->¬(b8 vr.ownBlock b\/Array.size g4<=b):=fun kb e=>by
        rcases e with e|e
        · have:=(ay.lt mk4.ru e.symm).1;omega
        · omega
       have hc4:=kd4.cell (i:=1) rfl;have hd4:=olb (ck hc4);have hc5:cellAt h2 _=some (Value.int .i64 x):=hrow5 0 _ rfl;have hd5:=olb (ck hc5)
       have hd6:¬(b8 vr.ownBlock gg5\/Array.size g4<=gg5):=fun e=>by
        rcases e with e|e
        · exact mk4.ne gg5 (by rw[hoa5];rfl) e.symm
        · have:=ck hcell5;simp only at this;omega
       refine dP ?_;refine uq 20 (fun b=>b8 vr.ownBlock b\/Array.size g4<=b) (fun i=>Nat.blt i 19) ?_;refine ax 0 ?_;refine ax 1 ?_;refine ax 2 ?_;refine ax 3 ?_;refine aS 4 rfl (fun h' e=>aA rfl (e.cell hdM4 (mk4.dblk.cell (i:=1) rfl))) ?_;refine ax 5 ?_;refine ax 6 ?_;refine ax 7 ?_;refine aS 8 rfl (fun h' e=>aA rfl (e.cell hd4 (mk4.ext.cell (fun k=>k) hc4))) ?_;refine ax 9 ?_;refine ax 10 ?_;refine aS 11 rfl (fun h' e=>bT rfl rfl i rfl hoa5) ?_;refine aS 12 rfl (fun h' e=>aA rfl (e.cell hd6 hcell5)) ?_;refine aS 13 rfl (fun h' e=>bT rfl rfl kk rfl ha5) ?_;refine aS 14 rfl (fun h' e=>aA rfl (e.cell hd5 (mk4.ext.cell (fun k=>k) hc5))) ?_;refine ct 15 rfl (kI [_]) ?_;rintro _ _ ⟨rfl,rfl⟩;refine⟨fun _=>by first|exact Ext.push _ _ _|assumption,?_⟩;refine ct 16 rfl (Dr rfl rfl hru rfl rfl) ?_;rintro v6 g6 ⟨ho6,hx6,hx6',hv6⟩;refine⟨fun _=>hx6'.mono (fun _ _ k=>.inl k),?_⟩;obtain⟨a6,c6,rfl,_⟩:=ho6.open;refine BO 17 ?_;refine ax 18 ?_;refine eK 19 rfl (b7 rfl rfl ((mk4.dblk.ext hx6 (fun e=>hdM4 (.inl e))))) ?_;rintro _ g7 ⟨rfl,k7,x7,z7⟩;refine⟨nofun,?_⟩;have mk7:=mk4.KJ (x:=x) rfl ho6 hx6 hv6 k7 x7;refine dP ?_;refine aa ?_;exact ih (i+1,_) ⟨_,_,of,next++[iS row],rule++[x],mk7,hil2,hok2,⟨by simp[hnl],by simp[hrl]⟩,by rw[<-hru0,show d.next.length+1-(i+1)=n by omega];exact hcon⟩
   · obtain rfl:i=of.length:=by omega
     obtain⟨n,hnn⟩:∃n,d.next.length+1-of.length=n+1:=⟨d.next.length-of.length,by omega⟩
     rw[hnn,GJ,List.getElem?_eq_none (Nat.le_refl _)] at hcon;simp only at hcon;refine aa ?_;refine aW ?_;have hz02:=(e1.trans e2).size;refine⟨_,rfl,⟨h2.size,rfl,?_⟩,(e1.trans e2).trans mk.ext⟩;rw[<-hcon];exact⟨vn,vr,by omega,mk.dblk,eP.read mk.nx (fun b hb k=>by omega),bF.read (h1:=fun _=>rfl) mk.ru (fun b hb k=>by omega)⟩
end Go.Proofs.YtckomlgchbkekaaGreatDoor
namespace Go.Proofs.YtckomlgchbkekaaGreatDoor
open Go Go.Lw
set_option maxRecDepth 20000
def tG (rules:List By):Int ⊕ gY:=match fV rules with
 |.inl e=>.inl e
 |.inr (ss,st)=>iH ss st
end Go.Proofs.YtckomlgchbkekaaGreatDoor
