/- What the proof of the statement leans on (part 21). -/
import Derived.LaidLaws
import Derived.LaidMore
import Derived.OpenShut
import Derived.Stop.Joined
import Derived.ChangeMaps5
import Derived.Lay
import Derived.Test.YtbbjkiigpdjaaaaDoorQt

namespace Go.Proofs.YtbbjkiigpdjaaaaDoor
open Go.Proofs.Tryd
open Go Go.Lw Go.ChangeShapes Go.WideShapes Go.ChangeAt Go.RowKit
set_option maxRecDepth 20000
theorem own:ownKnob Tryd.prog.godebug=none:=by kernel_rfl
theorem laidOut:laidOutB Tryd.prog=true:=by kernel_rfl
theorem zR (c:UInt8):((jh (c.toNat:Int) [((42:Int),(4:Int)),(43,5),(63,6)]).map (Value.int .i64)).getD (Value.int .i64 0)=Value.int .i64 (bp c:Nat):=by
  have hc:∀n:Nat,n<256->(c.toNat=n↔c=UInt8.ofNat n):=fun n hn=>by
    rw[<-UInt8.toNat_inj];simp;rw[Nat.mod_eq_of_lt hn]
  simp only[jh,bp]
  by_cases h1:c=42
  · subst h1;rfl
  by_cases h2:c=43
  · subst h2;rfl
  by_cases h3:c=63
  · subst h3;rfl
  have n1:¬(c.toNat:Int)=42:=fun e=>h1 ((hc 42 (by decide)).1 (by omega))
  have n2:¬(c.toNat:Int)=43:=fun e=>h2 ((hc 43 (by decide)).1 (by omega))
  have n3:¬(c.toNat:Int)=63:=fun e=>h3 ((hc 63 (by decide)).1 (by omega))
  simp[h1,h2,h3,n1,n2,n3]
theorem AB {W:World}{g t:Nat}{cs:Array Value}{fuel:Nat}{pl:List MemPlace}{sp:Nat->Bool}{held:Bool}{enc:TypeId×Value->Unit}(hg:Tryd.prog.globalNamed "limner/regs.signs" =some g) (ht:(Tryd.prog.globals[g]?).map (·.type)=some t) (hv:W.var? Tryd.prog "limner/regs.signs" =some cs)
    (hd:DataW.trod enc Tryd.prog W 0 sp held fuel t cs.toList=some (Rows.laid_limner_regs_signs,pl)):Sg W.heap W.heap.size:=by
  have gT:Tryd.prog.globalNamed "limner/regs.signs" =some 0:=by kernel_rfl
  have tT:(Tryd.prog.globals[0]?).map (·.type)=some 142:=by kernel_rfl
  obtain rfl:=Option.some.inj (gT.symm.trans hg);obtain rfl:=Option.some.inj (tT.symm.trans ht);obtain⟨b,hcs,l,hm,hp⟩:=A7 (kk:=.u8) (kd:=.i64) underlying142 underlying5 underlying3 hd
  have hcell:W.cell? ⟨0,0,none⟩=some (.map (some b)):=by
    have:=World.var?_cell hg hv 0;obtain⟨l1⟩:=cs;simp only at hcs;subst hcs;simpa using this
  have hc2:cellAt W.heap ⟨0,0,none⟩=some (.map (some b)):=(At.refl W).cell _▸hcell
  have hperm:l.Perm [((42:Int),(4:Int)),(43,5),(63,6)]:=by
    have hinj:∀p q:Int×Int,((.int .u8 p.1,.lit (.int .i64 p.2)):Lit×DataW Unit)=(.int .u8 q.1,.lit (.int .i64 q.2))->p=q:=by
      intro p q h;simp only[Prod.mk.injEq,Lit.int.injEq,DataW.lit.injEq,true_and] at h;exact Prod.ext h.1 h.2
    have hp':(l.map fun p=>((.int .u8 p.1,.lit (.int .i64 p.2)):Lit×DataW Unit)).Perm ([((42:Int),(4:Int)),(43,5),(63,6)].map fun p=>((.int .u8 p.1,.lit (.int .i64 p.2)):Lit×DataW Unit)):=hp
    have hback:∀m:List (Int×Int),(m.map fun p=>((.int .u8 p.1,.lit (.int .i64 p.2)):Lit×DataW Unit)).map (fun y=>match y with|(.int _ a,.lit (.int _ b))=>(a,b)|_=>((0:Int),(0:Int)))=m:=by
      intro m;rw[List.map_map];have:((fun y=>match y with|(.int _ a,.lit (.int _ b))=>(a,b)|_=>((0:Int),(0:Int)))∘fun p=>((.int .u8 p.1,.lit (.int .i64 p.2)):Lit×DataW Unit))=id:=by funext p;rfl
      rw[this,List.map_id]
    have:=hp'.map (fun y=>match y with|(.int _ a,.lit (.int _ b))=>(a,b)|_=>((0:Int),(0:Int)))
    rwa [hback,hback] at this
  refine⟨b,bI hc2,hm.lt,hc2,l,hm,fun c=>?_⟩;rw[Bx hperm (by decide)];exact zR c
theorem Cj (s:ByteArray):bs s.data.toList=s:=by cases s;simp[bs]
theorem Ds {h:af}{O:Nat->Prop}{v:Value}{l:List ByteArray}(k:aP .str h O v l):aP CS h O v (l.map fun s=>s.data.toList):=by
  obtain⟨oa,n,c,rfl,hl,hnc,hc,hg⟩:=k;refine⟨oa,n,c,rfl,by simpa using hl,hnc,hc,fun i x hx=>?_⟩;rw[List.getElem?_map] at hx;cases hs:l[i]? with
  |none=>rw[hs] at hx;cases hx
  |some s =>
    rw[hs] at hx;simp only[Option.map_some,Option.some.injEq] at hx;subst hx;obtain⟨b,o,cs,h1,h2,h3,h4⟩:=hg i s hs;refine⟨b,o,cs,h1,h2,h3,?_⟩;have h4:cs=[.string s]:=h4
    show cs=[.string (bs s.data.toList)]
    rw[Cj];exact h4
end Go.Proofs.YtbbjkiigpdjaaaaDoor
namespace Go.Proofs.YtbbjkiigpdjaaaaDoor
open Go.Proofs.Tryd
open Go Go.Lw
set_option maxRecDepth 20000 set_option maxHeartbeats 4000000
section
variable {h:af}{b:Nat}{v:Value}{l:List UInt8}
theorem bInfo:∃j,Tryd.prog.info? 121=some j/\j.size≠0:=⟨_,rfl,by decide⟩
theorem C4:∃i,Tryd.prog.info? 5=some i/\i.zero=some (.int .u8 0)/\i.size=1/\i.bytes=1:=⟨_,rfl,rfl,rfl,rfl⟩
theorem Ex:liesAt Tryd.prog Tryd.prog.depth 121 (2 / Tryd.prog.cellsOf 121) 0 121 1=true:=by kernel_rfl
theorem BU:Tryd.prog.cellsOf 5=1:=by kernel_rfl
theorem pZ (hb:aB h b 121 [.pointer none,v]) :
 an Tryd.prog 66 #[.pointer (some ⟨b,0,none⟩)] h (b8 fun _ h'=>aB h' b 121 [.pointer (some ⟨b,0,none⟩),v]/\Ext (fun i=>i=b) h h'/\h'.size=h.size):=by
 obtain⟨j,hj,hj0⟩:=bInfo;refine cV ?_;refine aa ?_;refine xp rfl (aE rfl (hb.cell (i:=0) rfl)) ?_;refine xp rfl (av.oH underlying118 rfl rfl) ?_;refine aa ?_;refine n6 rfl (by decide) ?_;refine cU ?_
 iterate 2 refine aY ?_
 refine xp rfl (av.Ap underlying118 underlying139 hj hj0 hb (by simp) rfl) ?_;refine xp rfl (av.AS func71 (by decide +kernel) (by kernel_rfl) (by kernel_rfl) (by kernel_rfl) rfl) ?_;refine xp rfl (av.xR underlying139 underlying118 hj hb Ex rfl) ?_;refine aa ?_;refine bN rfl (n8 rfl rfl hb) ?_;rintro _ h1 ⟨rfl,hb1,hx1,hs1⟩;refine aa ?_;refine DK ?_;exact⟨_,rfl,hb1,hx1,hs1⟩
theorem r4 (hb:aB h b 121 [.pointer (some ⟨b,0,none⟩),v]) :
 an Tryd.prog 66 #[.pointer (some ⟨b,0,none⟩)] h (b8 fun _ h'=>aB h' b 121 [.pointer (some ⟨b,0,none⟩),v]/\Ext (fun i=>i=b) h h'/\h'.size=h.size):=by
 obtain⟨j,hj,hj0⟩:=bInfo;refine cV ?_;refine aa ?_;refine xp rfl (aE rfl (hb.cell (i:=0) rfl)) ?_;refine xp rfl (av.oH underlying118 rfl rfl) ?_;refine aa ?_;refine oe rfl Bool.false_ne_true ?_;refine aa ?_;refine xp rfl (aE rfl (hb.cell (i:=0) rfl)) ?_;refine aY ?_;refine xp rfl (av.xF underlying118 hj rfl rfl) ?_;refine aa ?_;refine oe rfl Bool.false_ne_true ?_;refine aa ?_;refine DK ?_;exact⟨_,rfl,hb,Ext.refl _ _,rfl⟩
theorem jR {p:Value}(hb:aB h b 121 [p,v]) (hp:p= .pointer none\/p= .pointer (some ⟨b,0,none⟩)) :
 an Tryd.prog 66 #[.pointer (some ⟨b,0,none⟩)] h (b8 fun _ h'=>aB h' b 121 [.pointer (some ⟨b,0,none⟩),v]/\Ext (fun i=>i=b) h h'/\h'.size=h.size):=by
 rcases hp with rfl|rfl
 · exact pZ hb
 · exact r4 hb
theorem mY (s:ByteArray) (hb:n5 h b 121 5 l) (hl:l.length+s.size<=140737488355328) :
 an Tryd.prog 51 #[.pointer (some ⟨b,0,none⟩),.string s] h (b8 fun r h'=>r= .tuple #[.int .i64 s.size,.nilIface]/\n5 h' b 121 5 (l++s.data.toList)/\Ext (fun i=>b<=i) h h'):=by
 obtain⟨i,hi,hi0,hi1,hi2⟩:=C4;obtain⟨p,v,hk,hp,hv⟩:=hb;have hlt:=hk.lt;refine cV ?_;refine aa ?_;refine xo rfl (bz rfl (jR hk hp)) ?_;rintro _ h1 ⟨hk1,hx1,hs1⟩;refine aa ?_;have hv1:Cr h1 (b+1) 5 v l:=aj.ext hx1 hv (fun g hg=>by have:=ku hv g hg.symm;omega);refine xp rfl (aE rfl (hk1.cell (i:=1) rfl)) ?_;refine aa ?_;refine xo rfl (aL.zS underlying119 underlying9 hi hi0 hi1 hi2 rfl rfl hv1 hl (by omega)) ?_;rintro v2 h2 ⟨ho2,hx2⟩;refine aa ?_;have hk2:=hk1.ext hx2 (fun hm=>by have:=ku hv1 b hm;omega);obtain⟨oa2,c2,rfl,-⟩:=aj.open ho2;refine bN rfl (n8 rfl rfl hk2) ?_;rintro _ h3 ⟨rfl,hk3,hx3,hs3⟩;refine aa ?_;refine bU ?_;have ho3:Cr h3 (b+1) 5 _ (l++s.data.toList):=aj.ext hx3 ho2 (fun g hg=>by have:=ku ho2 g hg.symm;omega);exact⟨_,rfl,rfl,⟨_,_,hk3,.inr rfl,ho3⟩,((hx1.mono (fun _ _ k=>by show b<=_;omega)).trans (hx2.mono (fun g _ k=>by have:=ku hv1 g k;show b<=g;omega))).trans (hx3.mono (fun _ _ k=>by show b<=_;omega))⟩
theorem n5.ah {h h':af}{b:Nat}{l:List UInt8}(k:n5 h b 121 5 l) (e:ak h h'):n5 h' b 121 5 l:=by
 obtain⟨p,v,hk,hp,hv⟩:=k;exact⟨p,v,hk.ah e,hp,aT.ah hv e⟩
theorem s6 (hb:n5 h b 121 5 l) (hl:l.length<=140737488355328) :
 an Tryd.prog 54 #[.pointer (some ⟨b,0,none⟩)] h (b8 fun r h'=>r= .string ⟨l.toArray⟩/\Ext (fun i=>b<=i) h h'):=by
 obtain⟨p,v,hk,hp,hv⟩:=hb;obtain⟨oa,c,rfl,hw⟩:=aj.open hv;have hc1:=hk.cell (i:=1) rfl;refine cV ?_;refine aa ?_;refine vg 12 (fun i=>b+1<=i) (fun i=>Nat.blt i 12) ?_;refine aS 0 ?_;refine aS 1 ?_;refine aS 2 ?_;refine bL 3 rfl (fun h' e=>aE rfl (e.cell (by show ¬b+1<=b;omega) hc1)) ?_;refine aS 5 ?_;refine aS 6 ?_;refine aS 7 ?_;refine bL 8 rfl (fun h' e=>aE rfl (e.cell (by show ¬b+1<=b;omega) hc1)) ?_;refine aS 9 ?_;refine eZ 4 rfl (aL.zb underlying137 rfl hv) ?_;rintro u h1 ⟨⟨q,rfl,hs⟩,he⟩;refine⟨fun _=>he.of,?_⟩;refine eZ 10 rfl (oP underlying137 BU rfl rfl hs hl) ?_;rintro _ h2 ⟨rfl,hx2⟩;refine⟨fun _=>hx2,?_⟩;refine aS 11 ?_;refine lg ?_;refine bU ?_;exact⟨_,rfl,rfl,(ak.of he).trans (hx2.mono (fun g _ k=>by have:b+1<=g:=k;show b<=g;omega))⟩
def lI (h:af):Prop:=vq Tryd.prog h "internal/strconv.uint64pow10" =some (Lib.pow10Tab.map fun z=>Value.int .u64 z).toArray
theorem lI.ah {h':af}(k:lI h) (e:ak h h'):lI h':=xd e k
theorem xP (hg:lI h) (n:Int) (hn : -9223372036854775808<=n/\n<=9223372036854775807) :
 an Tryd.prog 52 #[.int .i64 n] h (b8 fun r h'=>r= .string (bs (Lib.itoa n))/\ak h h'):=by
 refine an.B5 fun w hw=>?_
 subst hw;refine(Tryd.strconv_Itoa n hn.1 hn.2 w hg).mono ?_;rintro e w' ⟨rfl,k,os,rfl⟩;refine⟨_,rfl,⟨rfl,?_⟩,rfl,rfl,rfl⟩;refine⟨by simp[Go.Sort.grow],fun b hb _=>?_⟩;simp[Go.Sort.grow,Array.getElem?_append_left hb]
theorem pW (c:UInt8) (hb:n5 h b 121 5 l) (hl:l.length<=900000000) :
 an Tryd.prog 53 #[.pointer (some ⟨b,0,none⟩),.int .u8 (c.toNat:Nat)] h (b8 fun _ h'=>n5 h' b 121 5 (l++[c])/\Ext (fun g=>b<=g) h h'):=by
 obtain⟨p,v,hk,hp,hv⟩:=hb;have hlt:=hk.lt;refine cV ?_;refine aa ?_;refine xo rfl (bz rfl (jR hk hp)) ?_;rintro _ h1 ⟨hk1,hx1,hs1⟩;refine aa ?_;have hv1:Cr h1 (b+1) 5 v l:=aj.ext hx1 hv (fun g hg=>by have:=ku hv g hg.symm;omega);refine xp rfl (aE rfl (hk1.cell (i:=1) rfl)) ?_;refine aa ?_;refine xo rfl (ji [_]) ?_;rintro _ _ ⟨rfl,rfl⟩;refine xo rfl (oS rfl rfl hv1 rfl rfl) ?_;rintro v2 h2 ⟨ho2,hx2,hx2',hv2⟩;have hk2:=hk1.ext hx2 (fun hm=>by have:=ku hv1 b hm;omega);have ho2':Cr h2 (b+1) 5 v2 (l++[c]):=aT.of (ys:=[c]) ho2 rfl rfl rfl;obtain⟨oa2,c2,rfl,-⟩:=ho2.open;refine aa ?_;refine bN rfl (n8 rfl rfl hk2) ?_;rintro _ h3 ⟨rfl,hk3,hx3,hs3⟩;refine aa ?_;refine bU ?_;exact⟨_,rfl,⟨_,_,hk3,.inr rfl,aj.ext hx3 ho2' (fun g hg=>by have:=ku ho2' g hg.symm;omega)⟩,((hx1.mono (fun _ _ k=>by show b<=_;omega)).trans (hx2.mono (fun g _ k=>by have:=ku hv1 g k;show b<=g;omega))).trans (hx3.mono (fun _ _ k=>by show b<=_;omega))⟩
theorem oE {O:Nat->Prop}(hg:lI h){l:List Int}(hv:aP (.int .i64) h O v l) (hl:l.length<=1000000) (hb:∀n∈l,-9223372036854775808<=n/\n<=9223372036854775807) :
 an Tryd.prog 32 #[v] h (b8 fun r h'=>r= .string (bs (eG l))/\ak h h'):=by
 obtain⟨oa,n,c,rfl,hsl⟩:=hv.open;have hn:=hsl.len;refine cV ?_;refine aa ?_;refine xo rfl (jf) ?_;rintro _ h0 ⟨rfl,hk0,he0,hs0⟩;refine aa ?_;have hb0:n5 h0 h.size 121 5 []:=yz hk0;refine fG (σ:=Nat) (fun i=>[(8,.int .i64 (i:Nat))]) (fun i h'=>i<=n/\ak h h'/\n5 h' h.size 121 5 (eG (l.take i))/\h0.size<=h'.size) (fun i=>n-i) (0) ⟨Nat.zero_le _,he0,hb0,Nat.le_refl _⟩ rfl ?_;rintro i g ⟨hi,eg,hbg,hgz⟩ ih;have hlen:=uK (l.take i) (fun x hx=>hb x (List.mem_of_mem_take hx));rw[List.length_take] at hlen;refine aa ?_;refine bF (fun hlt=>?_) (fun hlt=>?_)
 · obtain⟨b1,o1,x,hoa,_,hx,hcx⟩:=(hsl.mv (Mv.ah eg)).at (show i<n by omega);have hbx:=hb x (List.mem_of_getElem? hx);have hil:=Lib.itoa_length_le x hbx.1 hbx.2;have hbsz:=dF (Lib.itoa x);have hbl:(bs (Lib.itoa x)).data.toList=Lib.itoa x:=by simp[bs]
   have hnx:eG (l.take (i+1))=eG (l.take i)++(bs (Lib.itoa x)).data.toList++[32]:=by rw[List.take_add_one,hx,Option.toList_some,A8,hbl]
   iterate 4 refine bT ?_
   refine cU ?_;refine xp rfl (bK rfl rfl i rfl hoa) ?_;refine xp rfl (aE rfl hcx) ?_;refine aa ?_;refine xo rfl (bz rfl (xP (hg.ah eg) x hbx)) ?_;rintro _ g1 ⟨rfl,e1⟩;refine xo rfl (bz rfl (mY (bs (Lib.itoa x)) (n5.ah hbg e1) (by omega))) ?_;rintro _ g2 ⟨rfl,hb2,hx2⟩;refine aa ?_;refine xo rfl (bz rfl (pW 32 hb2 (by rw[List.length_append,hbl];omega))) ?_;rintro _ g3 ⟨hb3,hx3⟩;refine aa ?_;have z1:=e1.size;have z2:=hx2.size;have z3:=hx3.size;rw[<-hnx] at hb3
   have e3:ak h g3:=⟨by have:=eg.size;omega,fun b hb k=>by
    rw[hx3.block b (by have:=eg.size;omega) (by show ¬_<=_;omega),hx2.block b (by have:=eg.size;omega) (by show ¬_<=_;omega),e1.block b (by have:=eg.size;omega) (fun k=>k)];exact eg.block b hb k⟩
   exact ih (i+1) ⟨by omega,e3,hb3,by omega⟩
 · have hie:l.take i=l:=List.take_of_length_le (by omega);rw[hie] at hbg;have hkl:=uK l hb;refine aa ?_;refine xo rfl (bz rfl (s6 hbg (by omega))) ?_;rintro _ g1 ⟨rfl,hx1⟩;refine aa ?_;refine bU ?_;exact⟨_,rfl,rfl,⟨by have:=hx1.size;have:=eg.size;omega,fun b hb k=>by rw[hx1.block b (by have:=eg.size;omega) (by show ¬_<=_;omega)];exact eg.block b hb k⟩⟩
def bu (r:Row):List Value:=r.v.map (.int .i64)
@[simp] theorem jA (r:Row):(bu r).length=256:=by simp[bu,r.len]
def yS:gI Row:=.record 256 (by decide) bu jA (fun r v hv=>by simp[bu] at hv;obtain⟨_,_,rfl⟩:=hv;rfl)
def ja (h:af) (db:Nat) (d:aJ):Prop :=
 ∃vn vr,aB h db 66 [vn,vr]/\aP yS h (fun _=>False) vn d.next/\aP (.int .i64) h (fun _=>False) vr d.rule
theorem ja.ah {h h':af}{db:Nat}{d:aJ}(k:ja h db d) (e:ak h h'):ja h' db d:=by
 obtain⟨vn,vr,h1,h2,h3⟩:=k;exact⟨vn,vr,h1.ah e,h2.mv (Mv.ah e),h3.mv (Mv.ah e)⟩
def gW (h:af) (p:Value) (d:aJ):Prop:=(p= .pointer none/\d=⟨[],[]⟩)\/∃db,p= .pointer (some ⟨db,0,none⟩)/\ja h db d
theorem gW.ah {h h':af}{p:Value}{d:aJ}(k:gW h p d) (e:ak h h'):gW h' p d:=by
 rcases k with k|⟨db,hp,k⟩
 · exact .inl k
 · exact .inr ⟨db,hp,k.ah e⟩
theorem zJ:an Tryd.prog 21 #[.pointer none] h (b8 fun r h'=>r= .bool true/\h'=h):=by
 refine cV ?_;refine bT ?_;refine cU ?_;refine aY ?_;refine eW ?_;refine bT ?_;refine jY [(2,.bool true)] rfl ?_ ?_
 · refine aY ?_;refine xp rfl (av.oH underlying30 rfl rfl) ?_;refine aa ?_;refine RW.ew (d:=5) (b':=true) rfl (rfl) ?_;refine aa ?_;exact bH rfl ⟨au rfl (rfl),sb rfl⟩
 · refine bU ?_;exact⟨_,rfl,rfl,rfl⟩
theorem rX {db:Nat}{d:aJ}(k:ja h db d):an Tryd.prog 21 #[.pointer (some ⟨db,0,none⟩)] h (b8 fun r h'=>r= .bool (decide (d.next.length=0))/\h'=h):=by
 obtain⟨vn,vr,hk,⟨na,nn,nc,rfl,hnl,_⟩,h2⟩:=k;refine cV ?_;refine bT ?_;refine cU ?_;refine aY ?_;refine eW ?_;refine bT ?_;refine jY [(2,.bool (decide (d.next.length=0)))] rfl ?_ ?_
 · refine aY ?_;refine xp rfl (av.oH underlying30 rfl rfl) ?_;refine aa ?_;refine RW.ew (d:=5) (b':=false) rfl (rfl) ?_;refine aa ?_;refine xp rfl (aE rfl (hk.cell (i:=0) rfl)) ?_;refine aa ?_;exact bH rfl ⟨au rfl (by simp only[decide_eq_decide];omega),sb rfl⟩
 · refine bU ?_;exact⟨_,rfl,rfl,rfl⟩
theorem fR {p:Value}{d:aJ}(k:gW h p d):an Tryd.prog 21 #[p] h (b8 fun r h'=>r= .bool (decide (d.next.length=0))/\h'=h):=by
 rcases k with ⟨rfl,rfl⟩|⟨db,rfl,k⟩
 · exact zJ
 · exact rX k
end
end Go.Proofs.YtbbjkiigpdjaaaaDoor
namespace Go.Proofs.YtbbjkiigpdjaaaaDoor
open Go
section
variable {i j t k:Nat}{of:List Nat}{M:List (List Bool)}{r:List Bool}
def lH (d:aJ) (i:Nat):Int:=if i<d.next.length then (i:Int) else -1
def oV (d:aJ) (i:Nat) (c:UInt8):Nat:=if i<d.next.length/\0<=d.to i c then (d.to i c).toNat else d.next.length
def uv (d:aJ) (i:Nat):Int:=if i<d.next.length then d.ru i else -1
def jV (M:List (List Bool)) (i k:Nat):Bool:=(M.getD i []).getD k false
structure sI (d:aJ) (M:List (List Bool)):Prop where
  sound:∀i k,i<=d.next.length->k<=d.next.length->jV M i k=true->∃w,d.bW (lH d i) w≠d.bW (lH d k) w
  base:∀i k,i<=d.next.length->k<=d.next.length->uv d i≠uv d k->jV M i k=true
structure sJ (d:aJ) (M:List (List Bool)):Prop extends sI d M where
  closed:∀i k,i<=d.next.length->k<=d.next.length->jV M i k=false->∀c:UInt8,jV M (oV d i c) (oV d k c)=false
section
variable {d:aJ}{M:List (List Bool)}
theorem mg (hd:d.Ok) (i:Nat) (c:UInt8):oV d i c<=d.next.length:=by
  unfold oV;split
  · have:=(aJ.jL hd (s:=i) c).2;omega
  · exact Nat.le_refl _
theorem Di (hd:d.Ok) (i:Nat) (c:UInt8) (hi:i<d.next.length):∀w,d.bW (lH d (oV d i c)) w=d.bW (d.to i c) w:=fun w=>by
  have h:=(aJ.jL hd (s:=i) c).2;unfold oV
  by_cases h0:0<=d.to i c
  · rw[if_pos ⟨hi,h0⟩];unfold lH;rw[if_pos (by omega),Int.toNat_of_nonneg h0]
  · rw[if_neg (fun q=>h0 q.2),cW d w (show d.to i c<0 by omega)];unfold lH;rw[if_neg (by omega),cW d w (by decide)]
theorem qd (hd:d.Ok) (hi:i<=d.next.length) (c:UInt8) (w:By):d.bW (lH d i) (c::w)=d.bW (lH d (oV d i c)) w:=by
  by_cases h:i<d.next.length
  · rw[Di hd i c h,show lH d i=(i:Int) from if_pos h,cn]
  · have e:oV d i c=d.next.length:=if_neg fun q=>h q.1
    rw[e,show lH d i= -1 from if_neg h,show lH d d.next.length= -1 from if_neg (by omega),cW d _ (by decide),cW d _ (by decide)]
theorem qc (i:Nat):d.bW (lH d i) []=uv d i:=by
  unfold lH uv;split
  · exact cJ d i
  · exact cW d _ (by decide)
theorem sI.step (hd:d.Ok) (k:sI d M) (hi:i<=d.next.length) (hj:j<=d.next.length){c:UInt8}(h:jV M (oV d i c) (oV d j c)=true):∃w,d.bW (lH d i) w≠d.bW (lH d j) w:=by
  obtain⟨w,hw⟩:=k.sound _ _ (mg hd i c) (mg hd j c) h;exact⟨c::w,by rw[qd hd hi,qd hd hj];exact hw⟩
theorem sJ.iff (hd:d.Ok) (k:sJ d M) (hi:i<=d.next.length) (hj:j<=d.next.length):jV M i j=false↔∀w,d.bW (lH d i) w=d.bW (lH d j) w:=by
  constructor
  · intro h w
    induction w generalizing i j with
    |nil =>
      rw[qc,qc];refine Classical.not_not.1 fun q=>?_
      rw[k.base i j hi hj q] at h;cases h
    |cons c w ih =>
      rw[qd hd hi,qd hd hj];exact ih (mg hd i c) (mg hd j c) (k.closed i j hi hj h c)
  · intro h;cases q:jV M i j with
    |false=>rfl
    |true=>obtain⟨w,hw⟩:=k.sound i j hi hj q;exact absurd (h w) hw
theorem nD (hd:d.Ok) (k:sJ d M) (hi:i<=d.next.length):jV M i d.next.length=false↔(lH d i<0\/(ax d).getD (lH d i).toNat false=false):=by
  rw[k.iff hd hi (Nat.le_refl _)];have h:lH d i<d.next.length:=by unfold lH;split<;>omega
  rw[dP hd h];have e:∀w,d.bW (lH d d.next.length) w= -1:=fun w=>cW d w (by unfold lH;rw[if_neg (by omega)];decide)
  exact⟨fun q w=>by rw[q w,e w],fun q w=>by rw[q w,e w]⟩
theorem oC (hd:d.Ok) (k:sJ d M) (hi:i<d.next.length) (hj:j<d.next.length):jV M i j=false↔(aN d (ax d)).getD j 0=(aN d (ax d)).getD i 0:=by
  rw[k.iff hd (by omega) (by omega),eE hd hj hi];have e1:lH d i=(i:Int):=if_pos hi;have e2:lH d j=(j:Int):=if_pos hj;rw[e1,e2];exact⟨fun q w=>(q w).symm,fun q w=>(q w).symm⟩
theorem pK {cls:List Int}{c:Int}:∀(of:List Nat) (b i:Nat) (x:Nat),of[i]? =some x->c=cls.getD x 0->(∀(j y:Nat),j<i->of[j]? =some y->c≠cls.getD y 0)->eP cls b of c=some (b+i)
  | [],_,_,_,h,_,_=>by cases h
  |y::r,b,0,x,h,hc,_=>by
    simp at h;subst h;rw[eP,if_pos hc];rfl
  |y::r,b,i+1,x,h,hc,hn=>by
    rw[eP,if_neg (hn 0 y (by omega) rfl),pK r (b+1) i x (by simpa using h) hc fun j z hj hz=>hn (j+1) z (by omega) (by simpa using hz)]
    congr 1;omega
theorem tP {cls:List Int}{c:Int}:∀(of:List Nat) (b:Nat),(∀y∈of,c≠cls.getD y 0)->eP cls b of c=none
  | [],_,_=>rfl
  |y::r,b,h=>by
    rw[eP,if_neg (h y (by simp)),tP r (b+1) fun z hz=>h z (by simp[hz])]
theorem y6 (hd:d.Ok) (k:sJ d M) (ht:t<=d.next.length) (h:jV M t d.next.length=false):aV (ax d) (aN d (ax d)) of (lH d t)=(of,-1):=by
  unfold aV;rw[if_pos ((nD hd k ht).1 h)]
theorem yL (hd:d.Ok) (k:sJ d M) (ht:t<=d.next.length) (h:jV M t d.next.length=true):t<d.next.length:=by
  refine Nat.lt_of_le_of_ne ht fun e=>?_
  have:=(nD hd k ht).2 (.inl (by unfold lH;rw[if_neg (by omega)];decide));rw[this] at h;cases h
theorem xg (hd:d.Ok) (k:sJ d M) (hof:∀x∈of,x<d.next.length) (ht:t<=d.next.length) (h:jV M t d.next.length=true){x:Nat}(hi:of[i]? =some x) (hx:jV M x t=false) (hn:∀(j y:Nat),j<i->of[j]? =some y->jV M y t=true) :
    aV (ax d) (aN d (ax d)) of (lH d t)=(of,(i:Int)):=by
  have hlt:=yL hd k ht h;have e:lH d t=(t:Int):=if_pos hlt;unfold aV
  rw[if_neg (fun q=>by rw[(nD hd k ht).2 q] at h;cases h),e,Int.toNat_natCast,pK of 0 i x hi ((oC hd k (hof x (List.mem_of_getElem? hi)) hlt).1 hx) fun j y hj hy q=>by
    have:=hn j y hj hy;rw[(oC hd k (hof y (List.mem_of_getElem? hy)) hlt).2 q] at this;cases this]
  simp
theorem Az (hd:d.Ok) (k:sJ d M) (hof:∀x∈of,x<d.next.length) (ht:t<=d.next.length) (h:jV M t d.next.length=true) (hn:∀y∈of,jV M y t=true) :
    aV (ax d) (aN d (ax d)) of (lH d t)=(of++[t],(of.length:Int)):=by
  have hlt:=yL hd k ht h;have e:lH d t=(t:Int):=if_pos hlt;unfold aV
  rw[if_neg (fun q=>by rw[(nD hd k ht).2 q] at h;cases h),e,Int.toNat_natCast,tP of 0 fun y hy q=>by
    have:=hn y hy;rw[(oC hd k (hof y hy) hlt).2 q] at this;cases this]
end
structure Sq (n:Nat) (M:List (List Bool)):Prop where
  len:M.length=n
  row:∀r∈M,r.length=n
theorem xI {x:Bool}(hr:M[i]? =some r) (hx:r[k]? =some x):jV M i k=x:=by
  unfold jV;rw[List.getD_eq_getElem?_getD (l:=M),hr,Option.getD_some,List.getD_eq_getElem?_getD,hx];rfl
theorem yK (hr:M[i]? =some r) (hk:k<r.length) (b:Bool) (i' k':Nat):jV (M.set i (r.set k b)) i' k'=if i'=i/\k'=k then b else jV M i' k':=by
  have hi:=(List.getElem?_eq_some_iff.1 hr).1;unfold jV;simp only[List.getD_eq_getElem?_getD];rw[List.getElem?_set]
  by_cases hii:i=i'
  · subst hii;rw[if_pos rfl,if_pos hi,Option.getD_some,List.getElem?_set,hr,Option.getD_some]
    by_cases hkk:k=k'
    · subst hkk;rw[if_pos rfl,if_pos hk,if_pos ⟨rfl,rfl⟩];rfl
    · rw[if_neg hkk,if_neg (fun q=>hkk q.2.symm)]
  · rw[if_neg hii,if_neg (fun q=>hii q.1.symm)]
theorem Sq.put {n:Nat}(s:Sq n M) (hr:M[i]? =some r) (b:Bool):Sq n (M.set i (r.set k b)) :=
  ⟨by rw[List.length_set];exact s.len,fun x hx=>by
    rcases List.mem_or_eq_of_mem_set hx with e|e
    · exact s.row x e
    · subst e;rw[List.length_set];exact s.row r (List.mem_of_getElem? hr)⟩
def nC:List (List Bool)->Nat
  | []=>0
  |r::M=>dL r+nC M
theorem vQ:∀(M:List (List Bool)) (i k:Nat) (r:List Bool),M[i]? =some r->r[k]? =some false->nC (M.set i (r.set k true))<nC M
  | [],_,_,_,h,_=>by simp at h
  |x::M,0,k,r,h,hk=>by
    simp at h;subst h;have:=mK x k true hk;simp only[List.set_cons_zero,nC];simp at this;omega
  |x::M,i+1,k,r,h,hk=>by
    have:=vQ M i k r (by simpa using h) hk;simp only[List.set_cons_succ,nC];omega
section
variable {d:aJ}{M:List (List Bool)}
theorem sI.put (hd:d.Ok) (m:sI d M) (hi:i<=d.next.length) (hk:k<=d.next.length) (hr:M[i]? =some r) (hkr:k<r.length){c:UInt8}(h:jV M (oV d i c) (oV d k c)=true):sI d (M.set i (r.set k true)) where
  sound:=fun i' k' hi' hk' h'=>by
    rw[yK hr hkr] at h';split at h'
    · rename_i e;obtain⟨rfl,rfl⟩:=e;exact m.step hd hi hk h
    · exact m.sound i' k' hi' hk' h'
  base:=fun i' k' hi' hk' h'=>by
    rw[yK hr hkr];split
    · rfl
    · exact m.base i' k' hi' hk' h'
def BR (d:aJ) (M:List (List Bool)) (i k b:Nat):Prop:=jV M i k=false->∀c:UInt8,c.toNat<b->jV M (oV d i c) (oV d k c)=false
def yy (d:aJ) (M:List (List Bool)) (i k:Nat):Prop:=∀i' k',i'<=d.next.length->k'<=d.next.length->(i'<i\/(i'=i/\k'<k))->BR d M i' k' 256
theorem yy.next (h:yy d M i k) (hb:BR d M i k 256):yy d M i (k+1):=fun i' k' hi hk hl=>by
  by_cases e:i'=i/\k'=k
  · obtain⟨rfl,rfl⟩:=e;exact hb
  · exact h i' k' hi hk (by omega)
theorem yy.line (h:yy d M i (d.next.length+1)):yy d M (i+1) 0:=fun i' k' hi hk hl=>h i' k' hi hk (by omega)
theorem yy.all (m:sI d M) (h:yy d M (d.next.length+1) 0):sJ d M :=
  ⟨m,fun i k hi hk hf c=>h i k hi hk (.inl (by omega)) hf c (by have:=c.toNat_lt;omega)⟩
theorem yy.zero:yy d M 0 0:=fun _ _ _ _ h=>by omega
theorem BR.zero:BR d M i k 0:=fun _ _ h=>by omega
theorem BR.step {b:Nat}(h:BR d M i k b) (hb:b<256) (hn:jV M (oV d i (UInt8.ofNat b)) (oV d k (UInt8.ofNat b))=false):BR d M i k (b+1):=fun hf c hc=>by
  by_cases e:c.toNat=b
  · have:c=UInt8.ofNat b:=by rw[<-e];simp
    rw[this];exact hn
  · exact h hf c (by omega)
def cT (d:aJ) (i:Nat):List Bool:=(List.range (d.next.length+1)).map fun k=>decide (uv d i≠uv d k)
def eT (d:aJ):List (List Bool):=(List.range (d.next.length+1)).map (cT d)
theorem iB (i:Nat):(cT d i).length=d.next.length+1:=by simp[cT]
theorem sk (hk:k<=d.next.length):(cT d i)[k]? =some (decide (uv d i≠uv d k)):=by
  rw[cT,List.getElem?_map,List.getElem?_range (by omega)];rfl
theorem wO (hi:i<=d.next.length):(eT d)[i]? =some (cT d i):=by
  rw[eT,List.getElem?_map,List.getElem?_range (by omega)];rfl
theorem Bv:Sq (d.next.length+1) (eT d):=⟨by simp[eT],fun r hr=>by
  obtain⟨i,_,rfl⟩:=List.mem_map.1 hr;exact iB i⟩
theorem Cl:sI d (eT d):=by
  have key:∀i k,i<=d.next.length->k<=d.next.length->jV (eT d) i k=decide (uv d i≠uv d k):=fun i k hi hk=>xI (wO hi) (sk hk)
  refine⟨fun i k hi hk h=>?_,fun i k hi hk h=>by rw[key i k hi hk];exact decide_eq_true h⟩;rw[key i k hi hk] at h;exact⟨[],by rw[qc,qc];exact of_decide_eq_true h⟩
theorem Ce (hd:d.Ok) (hi:i<d.next.length) (c:UInt8):lH d (oV d i c)=d.to i c:=by
  have h:=aJ.jL hd (s:=i) c;unfold oV
  by_cases h0:0<=d.to i c
  · rw[if_pos ⟨hi,h0⟩];unfold lH;rw[if_pos (by omega),Int.toNat_of_nonneg h0]
  · rw[if_neg (fun q=>h0 q.2)];unfold lH;rw[if_neg (by omega)];omega
end
end
end Go.Proofs.YtbbjkiigpdjaaaaDoor
namespace Go.Proofs.YtbbjkiigpdjaaaaDoor
open Go.Proofs.Tryd
open Go Go.Lw
set_option maxRecDepth 20000 set_option maxHeartbeats 4000000
section
variable {h h0:af}{i n ob g:Nat}{gs:List (Option Nat)}{M:List (List Bool)}{L:List Nat}
def FQ (h:af) (O:Nat->Prop) (cs:List Value) (x:Row):Prop:=∃v,cs=[v]/\aP (.int .i64) h O v x.v
def EP:gI Row:=⟨1,by decide,FQ,fun h=>by obtain⟨v,rfl,_⟩:=h;rfl,fun h=>by
 obtain⟨v,rfl,hv⟩:=h;intro u hu;simp at hu;subst hu;exact aP.wz hv,fun h m=>by
 obtain⟨v,hc,hv⟩:=h;exact⟨v,hc,hv.mv m⟩⟩
def wU (h:af) (db:Nat) (d:aJ):Prop :=
 ∃vn vr,aB h db 41 [vn,vr]/\aP EP h (fun _=>False) vn d.next/\aP (.int .i64) h (fun _=>False) vr d.rule
theorem wU.ah {h h':af}{db:Nat}{d:aJ}(k:wU h db d) (e:ak h h'):wU h' db d:=by
 obtain⟨vn,vr,h1,h2,h3⟩:=k;exact⟨vn,vr,h1.ah e,h2.mv (Mv.ah e),h3.mv (Mv.ah e)⟩
theorem qs {db:Nat}{d:aJ}(k:wU h db d) (hok:d.Ok){b:Nat}(hi:i<=d.next.length) (hb:b<256) :
 an Tryd.prog 20 #[.pointer (some ⟨db,0,none⟩),.int .i64 (i:Nat),.int .i64 (b:Nat)] h (b8 fun r h'=>r= .int .i64 (oV d i (UInt8.ofNat b):Nat)/\h'=h):=by
 obtain⟨vn,vr,hk,⟨na,nn,nc,rfl,hnl,hnc,hnm,hgetn⟩,_⟩:=k;subst hnl;have hsize:=hok.size;have hub:(UInt8.ofNat b).toNat=b:=by simp;omega
 refine cV ?_;refine bT ?_;refine cU ?_;refine aY ?_;refine eW ?_
 iterate 2 refine bT ?_
 refine jY [(26,.bool (decide (i=d.next.length\/d.to i (UInt8.ofNat b)<0)))] rfl ?_ ?_
 · refine aa ?_;refine xp rfl (aE rfl (hk.cell (i:=0) rfl)) ?_;refine aa ?_;refine ie 14 (fun hz=>?_) (fun hz=>?_)
   · have hz':=of_decide_eq_true hz;refine aa ?_;exact bH rfl ⟨au rfl (by rw[eq_comm,decide_eq_true_iff];omega),sb rfl⟩
   · have hz':=of_decide_eq_false hz;obtain⟨r,hr⟩:∃r,d.next[i]? =some r:=⟨_,List.getElem?_eq_getElem (by omega)⟩
     obtain⟨b1,o1,cs1,ha1,_,hrow1,w,rfl,hw⟩:=hgetn i r hr;obtain⟨wa,wn,wc,rfl,hwl⟩:=id hw.open;have hwn:=hwl.len;have hrl:=r.len;obtain⟨x,hx⟩:∃x,r.v[b]? =some x:=⟨_,List.getElem?_eq_getElem (by omega)⟩
     obtain⟨b2,o2,cs2,ha2,_,hrow2,rfl⟩:=hwl.get b x hx;have hto:d.to i (UInt8.ofNat b)=x:=by unfold aJ.to;rw[hr];show r.v.getD (UInt8.ofNat b).toNat (-1)=x;rw[hub,List.getD_eq_getElem?_getD,hx];rfl
     refine aa ?_;refine xp rfl (aE rfl (hk.cell (i:=0) rfl)) ?_;refine aY ?_;refine xp rfl (bK rfl rfl i rfl ha1) ?_;refine xp rfl (aE rfl (hrow1 0 _ rfl)) ?_;refine aY ?_;refine xp rfl (bK rfl rfl b rfl ha2) ?_;refine xp rfl (aE rfl (hrow2 0 _ rfl)) ?_;refine aa ?_;exact bH rfl ⟨au rfl (by rw[hto];simp only[decide_eq_decide];omega),sb rfl⟩
 · refine bF (fun hz=>?_) (fun hz=>?_)
   · refine aa ?_;refine xp rfl (aE rfl (hk.cell (i:=0) rfl)) ?_;refine aa ?_;refine bU ?_;exact⟨_,rfl,by show Value.int .i64 _=_;unfold oV;rw[if_neg (by omega)],rfl⟩
   · obtain⟨r,hr⟩:∃r,d.next[i]? =some r:=⟨_,List.getElem?_eq_getElem (by omega)⟩
     obtain⟨b1,o1,cs1,ha1,_,hrow1,w,rfl,hw⟩:=hgetn i r hr;obtain⟨wa,wn,wc,rfl,hwl⟩:=id hw.open;have hwn:=hwl.len;have hrl:=r.len;obtain⟨x,hx⟩:∃x,r.v[b]? =some x:=⟨_,List.getElem?_eq_getElem (by omega)⟩
     obtain⟨b2,o2,cs2,ha2,_,hrow2,rfl⟩:=hwl.get b x hx;have hto:d.to i (UInt8.ofNat b)=x:=by unfold aJ.to;rw[hr];show r.v.getD (UInt8.ofNat b).toNat (-1)=x;rw[hub,List.getD_eq_getElem?_getD,hx];rfl
     refine aa ?_;refine xp rfl (aE rfl (hk.cell (i:=0) rfl)) ?_;refine aY ?_;refine xp rfl (bK rfl rfl i rfl ha1) ?_;refine xp rfl (aE rfl (hrow1 0 _ rfl)) ?_;refine aY ?_;refine xp rfl (bK rfl rfl b rfl ha2) ?_;refine xp rfl (aE rfl (hrow2 0 _ rfl)) ?_;refine aa ?_;refine bU ?_;exact⟨_,rfl,by show Value.int .i64 x=_;unfold oV;rw[hto] at hz ⊢;rw[if_pos (by omega),Int.toNat_of_nonneg (by omega)],rfl⟩
def Dn (n:Nat):Option Nat->Value
 |none=>.slice none 0 0
 |some g=>.slice (some ⟨g,0,none⟩) n n
structure jU (h0 h:af) (n ob:Nat) (gs:List (Option Nat)) (M:List (List Bool)):Prop where
 ext:ak h0 h
 top:aT (Dn n) h h0.size 61 (.slice (some ⟨ob,0,none⟩) n n) gs
 ln:gs.length=n
 row:∀(i g:Nat),gs[i]? =some (some g)->∃r,M[i]? =some r/\aT Value.bool h h0.size 4 (.slice (some ⟨g,0,none⟩) n n) r/\r.length=n
 inj:∀(i j g:Nat),gs[i]? =some (some g)->gs[j]? =some (some g)->i=j
theorem jU.ah {h0 h h':af}{n ob:Nat}{gs:List (Option Nat)}{M:List (List Bool)}(k:jU h0 h n ob gs M) (e:ak h h'):jU h0 h' n ob gs M :=
 ⟨k.ext.trans e,aT.ah k.top e,k.ln,fun i g hg=>by obtain⟨r,h1,h2,h3⟩:=k.row i g hg;exact⟨r,h1,aT.ah h2 e,h3⟩,k.inj⟩
theorem jU.get (k:jU h0 h n ob gs M) (hg:gs[i]? =some (some g)):cellAt h ⟨ob,0+i*1,none⟩=some (.slice (some ⟨g,0,none⟩) n n):=by
 obtain⟨g',c',hv,_,_,hc,_⟩:=k.top.at hg;cases hv;exact hc
theorem jU.cell (k:jU h0 h n ob gs M){j:Nat}(hg:gs[i]? =some (some g)) (hj:j<n):cellAt h ⟨g,0+j*1,none⟩=some (.bool (jV M i j)):=by
 obtain⟨r,h1,h2,h3⟩:=k.row i g hg;obtain⟨x,hx⟩:∃x,r[j]? =some x:=⟨_,List.getElem?_eq_getElem (by omega)⟩
 obtain⟨g',c',hv,_,_,hc,_⟩:=h2.at hx;cases hv;rw[xI h1 hx];exact hc
theorem jU.put (k:jU h0 h n ob gs M){j:Nat}{r:List Bool}(hg:gs[i]? =some (some g)) (hr:M[i]? =some r) (hj:j<n) (b:Bool) :
 frozenAt h ⟨g,0+j*1,none⟩=false/\jU h0 (bY h ⟨g,0+j*1,none⟩ (.bool b)) n ob gs (M.set i (r.set j b)):=by
 obtain⟨r',h1,h2,h3⟩:=k.row i g hg;obtain rfl:r'=r:=by rw[hr] at h1;cases h1;rfl
 obtain⟨x,hx⟩:∃x,r'[j]? =some x:=⟨_,List.getElem?_eq_getElem (by omega)⟩
 obtain⟨g',c',hv,hge,_,hc,hfz,hset⟩:=h2.at hx;cases hv;have x1:Ext (fun y=>y=g) h (bY h ⟨g,0+j*1,none⟩ (.bool b)):=Ext.bY _ _ _ rfl;have hty:aW h g 4:=aj.ty h2 rfl;refine⟨hfz,ak.set k.ext hge _,aj.ext x1 k.top (fun y hy e=>(show aW h y 61 from aj.ty k.top hy).ne hty (by decide) e),k.ln,fun i' g' hg'=>?_,k.inj⟩;have hi:=(List.getElem?_eq_some_iff.1 hr).1;rw[List.getElem?_set]
 by_cases e:i=i'
 · subst e;obtain rfl:g=g':=by rw[hg] at hg';exact Option.some.inj (Option.some.inj hg')
   rw[if_pos rfl,if_pos hi];exact⟨_,rfl,hset b,by rw[List.length_set]<;>exact h3⟩
 · rw[if_neg e];obtain⟨r2,q1,q2,q3⟩:=k.row i' g' hg';exact⟨r2,q1,aj.ext x1 q2 (fun y hy ey=>e (k.inj i i' g hg (by cases hy;subst ey;exact hg'))),q3⟩
def iV (n:Nat) (L:List Nat):List (Option Nat):=L.map some++List.replicate (n-L.length) none
theorem fJ:(iV n L)[i]? =some (some g)↔L[i]? =some g:=by
 unfold iV
 rcases Nat.lt_or_ge i L.length with h|h
 · rw[List.getElem?_append_left (by simpa using h),List.getElem?_map,List.getElem?_eq_getElem h];simp
 · rw[List.getElem?_append_right (by simpa using h),List.getElem?_replicate,List.getElem?_eq_none h];split<;>simp
theorem tO (h:L.length<n):(iV n L)[L.length]? =some none:=by
 unfold iV;rw[List.getElem?_append_right (by simp),List.getElem?_replicate,if_pos (by simp;omega)]
theorem Be (h:L.length<n) (g:Nat):(iV n L).set L.length (some g)=iV n (L++[g]):=by
 unfold iV;rw[List.set_append_right _ _ (by simp),show n-L.length=(n-(L++[g]).length)+1 by simp;omega,List.replicate_succ];simp
theorem rK (h:L.length<=n):(iV n L).length=n:=by unfold iV;simp;omega
theorem jU.Fs {h1:af}(k:jU h0 h n ob (iV n L) M) (hM:M.length=L.length) (hl:L.length<n){r:List Bool}(hr:r.length=n) (e:ak h h1) (ho:aT Value.bool h1 h.size 4 (.slice (some ⟨h.size,0,none⟩) n n) r) :
 cellAt h1 ⟨ob,0+L.length*1,none⟩=some (.slice none 0 0)/\frozenAt h1 ⟨ob,0+L.length*1,none⟩=false/\jU h0 (bY h1 ⟨ob,0+L.length*1,none⟩ (.slice (some ⟨h.size,0,none⟩) n n)) n ob (iV n (L++[h.size])) (M++[r]):=by
 have k1:=k.ah e;have hgl:=rK (n:=n) (L:=L) (by omega);obtain⟨g',c',hv,hge,hlt,hc,hfz,hset⟩:=k1.top.at (tO hl);rw[hgl] at hv;cases hv;have hset:=hset (some h.size);rw[Be hl] at hset;have hz:=k.ext.size
 have hob:ob<h.size:=by
  obtain⟨_,_,hv,_,hlt,_⟩:=k.top.at (tO hl);rw[hgl] at hv;cases hv;exact hlt
 have x1:Ext (fun y=>y=ob) h1 (bY h1 ⟨ob,0+L.length*1,none⟩ (.slice (some ⟨h.size,0,none⟩) n n)):=Ext.bY _ _ _ rfl
 have hlow:∀(i g:Nat),L[i]? =some g->g<h.size:=fun i g hg=>by
  obtain⟨r,_,h2,_⟩:=k.row i g (fJ.2 hg);exact(aj.lt h2 rfl).2
 refine⟨hc,hfz,ak.set k1.ext hge _,hset,rK (by simp;omega),fun i g hg=>?_,fun i j g hi hj=>?_⟩
 · rw[fJ] at hg
   rcases Nat.lt_or_ge i L.length with hil|hil
   · rw[List.getElem?_append_left hil] at hg;obtain⟨r2,q1,q2,q3⟩:=k1.row i g (fJ.2 hg);exact⟨r2,by rw[List.getElem?_append_left (by omega)];exact q1,aj.ext x1 q2 (fun y hy ey=>(show aW h1 y 4 from aj.ty q2 hy).ne (show aW h1 ob 61 from aj.ty k1.top rfl) (by decide) ey),q3⟩
   · have hie:i=L.length:=by have:=(List.getElem?_eq_some_iff.1 hg).1;simp at this;omega
     subst hie;rw[List.getElem?_concat_length] at hg;cases hg;refine⟨r,by rw[<-hM,List.getElem?_concat_length],?_,hr⟩;have ho2:aT Value.bool h1 h0.size 4 (.slice (some ⟨h.size,0,none⟩) n n) r:=gX ho hz;exact aj.ext x1 ho2 (fun y hy ey=>by cases hy;have ey:h.size=ob:=ey;omega)
 · rw[fJ] at hi hj
   rcases Nat.lt_or_ge i L.length with h1'|h1'<;>rcases Nat.lt_or_ge j L.length with h2'|h2'
   · rw[List.getElem?_append_left h1'] at hi;rw[List.getElem?_append_left h2'] at hj;exact k.inj i j g (fJ.2 hi) (fJ.2 hj)
   · rw[List.getElem?_append_left h1'] at hi;have hje:j=L.length:=by have:=(List.getElem?_eq_some_iff.1 hj).1;simp at this;omega
     subst hje;rw[List.getElem?_concat_length] at hj;cases hj;have:=hlow i _ hi;omega
   · rw[List.getElem?_append_left h2'] at hj;have hie:i=L.length:=by have:=(List.getElem?_eq_some_iff.1 hi).1;simp at this;omega
     subst hie;rw[List.getElem?_concat_length] at hi;cases hi;have:=hlow j _ hj;omega
   · have:=(List.getElem?_eq_some_iff.1 hi).1;have:=(List.getElem?_eq_some_iff.1 hj).1;simp at *;omega
structure u5 (h0 h:af) (n ob:Nat) (L:List Nat) (M:List (List Bool)):Prop where
 mat:jU h0 h n ob (iV n L) M
 ln:L.length=n
 sq:Sq n M
theorem u5.ah {h0 h h':af}{n ob:Nat}{L:List Nat}{M:List (List Bool)}(k:u5 h0 h n ob L M) (e:ak h h'):u5 h0 h' n ob L M:=⟨k.mat.ah e,k.ln,k.sq⟩
theorem u5.at (k:u5 h0 h n ob L M) (hi:i<n):∃g r,(iV n L)[i]? =some (some g)/\M[i]? =some r/\r.length=n:=by
 have hl:=k.ln;have hm:=k.sq.len;obtain⟨r,hr⟩:∃r,M[i]? =some r:=⟨_,List.getElem?_eq_getElem (by omega)⟩
 exact⟨_,r,fJ.2 (List.getElem?_eq_getElem (by omega)),hr,k.sq.row r (List.mem_of_getElem? hr)⟩
structure ET (d:aJ) (h0 h:af) (ob:Nat) (L:List Nat) (F:Nat) (M:List (List Bool)) (ag:Bool):Prop where
 f:u5 h0 h (d.next.length+1) ob L M
 s:sI d M
 le:nC M<=F
 lt:ag=true->nC M<F
theorem wQ {db:Nat}{d:aJ}(kt:wU h db d) (hok:d.Ok) :
 an Tryd.prog 19 #[.pointer (some ⟨db,0,none⟩)] h (b8 fun r h'=>∃ob L M,r= .slice (some ⟨ob,0,none⟩) (d.next.length+1) (d.next.length+1)/\u5 h h' (d.next.length+1) ob L M/\sJ d M):=by
 obtain⟨vn,vr,hk,⟨na,nn,nc,rfl,hnl,hnc,hnm,hgetn⟩,⟨ra,rn,rc,rfl,hrl,hrc,hrm,hgetr⟩⟩:=id kt;have hsize:=hok.size;have hlen:=hok.len;have hslR:aP (.int .i64) h (fun _=>False) (.slice ra rn rc) d.rule:=⟨_,_,_,rfl,hrl,hrc,hrm,hgetr⟩
 subst hnl;refine cV ?_;refine aa ?_;refine xp rfl (aE rfl (hk.cell (i:=0) rfl)) ?_;refine aa ?_;refine xo rfl (aL.cY underlying58 H.En H.EW rfl rfl rfl (n:=d.next.length+1) (by omega) (by decide)) ?_;rintro _ h1 ⟨rfl,k1,e1⟩;have top:aT (Dn (d.next.length+1)) h1 h.size 61 (.slice (some ⟨h.size,0,none⟩) (d.next.length+1) (d.next.length+1)) (iV (d.next.length+1) []):=by unfold aT iV;simpa [Dn] using k1
 have mk0:jU h h1 (d.next.length+1) h.size (iV (d.next.length+1) []) []:=⟨e1,top,rK (by simp),fun i g hg=>by rw[fJ] at hg;simp at hg,fun i j g hi=>by rw[fJ] at hi;simp at hi⟩
 refine aa ?_;refine fG (σ:=Nat×List Nat) (fun q=>[(5,.int .i64 (q.1:Nat))]) (fun q h'=>jU h h' (d.next.length+1) h.size (iV (d.next.length+1) q.2) ((eT d).take q.1)/\q.2.length=q.1/\q.1<=d.next.length+1) (fun q=>d.next.length+1-q.1) ((0,[])) ⟨mk0,rfl,Nat.zero_le _⟩ rfl ?_;rintro⟨i,L⟩ g ⟨mk,hL,hi⟩ ih
 try dsimp only
 dsimp only at mk hL hi;refine aa ?_;refine bF (fun hlt=>?_) (fun hlt=>?_)
 · subst hL;have hzg:=mk.ext.size;have hbl:(eT d).length=d.next.length+1:=by simp[eT]
   refine aa ?_;refine xo rfl (aL.cY underlying61 H.BP H.BS rfl rfl rfl (n:=d.next.length+1) (by omega) (by decide)) ?_;rintro _ g1 ⟨rfl,kr,er⟩;have kr:aT Value.bool g1 g.size 4 (.slice (some ⟨g.size,0,none⟩) (d.next.length+1) (d.next.length+1)) (List.replicate (d.next.length+1) false):=by unfold aT;simpa using kr
   obtain⟨hc,hf,mk2⟩:=mk.Fs (by rw[List.length_take];omega) (by omega) (by simp) er kr;refine xp rfl (bK rfl rfl L.length rfl rfl) ?_;refine bN rfl (aI H.xe rfl rfl rfl hc hf) ?_;rintro _ g2 ⟨rfl,hg2⟩;rw[<-hg2] at mk2;refine aa ?_;refine fG (σ:=Nat) (fun k=>[(6,.int .i64 (k:Nat))]) (fun k h'=>jU h h' (d.next.length+1) h.size (iV (d.next.length+1) (L++[g.size])) ((eT d).take L.length++[(cT d L.length).take k++List.replicate (d.next.length+1-k) false])/\k<=d.next.length+1) (fun k=>d.next.length+1-k) (0) ⟨mk2,Nat.zero_le _⟩ rfl ?_;rintro k g3 ⟨mk,hk6⟩ ih2;refine aa ?_;refine bF (fun hlt2=>?_) (fun hlt2=>?_)
   · have hg3:(iV (d.next.length+1) (L++[g.size]))[L.length]? =some (some g.size):=fJ.2 (by rw[List.getElem?_concat_length]);have htl:((eT d).take L.length).length=L.length:=by rw[List.length_take];omega
     have hrw:((eT d).take L.length++[(cT d L.length).take k++List.replicate (d.next.length+1-k) false])[L.length]? =some ((cT d L.length).take k++List.replicate (d.next.length+1-k) false):=by
      have:=List.getElem?_concat_length (l:=(eT d).take L.length) (a:=(cT d L.length).take k++List.replicate (d.next.length+1-k) false)
      rwa [htl] at this
     have hcl:=mk.cell hg3 (show k<d.next.length+1 by omega);obtain⟨hfz,_⟩:=mk.put hg3 hrw (show k<d.next.length+1 by omega) false;have hkr:=mk.ext
     have fin:∀(a b:Int) (g4:af),uv d L.length=a->uv d k=b->g4=bY g3 ⟨g.size,0+k*1,none⟩ (.bool (decide (a≠b)))->jU h g4 (d.next.length+1) h.size (iV (d.next.length+1) (L++[g.size])) ((eT d).take L.length++[(cT d L.length).take (k+1)++List.replicate (d.next.length+1-(k+1)) false]):=by
      rintro a b g4 rfl rfl rfl;have hp:=(mk.put hg3 hrw (show k<d.next.length+1 by omega) (decide (uv d L.length≠uv d k))).2;have hl:k<(cT d L.length).length:=by rw[iB];omega
      have he:(cT d L.length)[k]=decide (uv d L.length≠uv d k):=by
       have h1:=sk (d:=d) (i:=L.length) (k:=k) (by omega);rw[List.getElem?_eq_getElem hl] at h1;exact Option.some.inj h1
      have hfs:=rU (z:=false) (iB (d:=d) L.length) (show k<d.next.length+1 by omega);rw[he] at hfs;rw[hfs,List.set_append_right _ _ (by omega),htl,Nat.sub_self,List.set_cons_zero] at hp;exact hp
     have hru:∀i x,i<d.next.length->d.rule[i]? =some x->uv d i=x:=fun i x hi hx=>by unfold uv aJ.ru;rw[if_pos hi,List.getD_eq_getElem?_getD,hx];rfl
     have hrn:∀i,¬i<d.next.length->uv d i= -1:=fun i hi=>if_neg hi
     have hkk:=hk.ah hkr;refine aa ?_;refine bF (fun hc1=>?_) (fun hc1=>?_)
     · obtain⟨x,hx⟩:∃x,d.rule[L.length]? =some x:=⟨_,List.getElem?_eq_getElem (by omega)⟩
       obtain⟨oa',n',c',hv',_,_,_,hget1⟩:=id (hslR.mv (Mv.ah hkr));cases hv';obtain⟨b3,o3,cs3,ha3,_,hrow3,rfl⟩:=hget1 L.length x hx;refine aa ?_;refine xp rfl (aE rfl (hkk.cell (i:=1) rfl)) ?_;refine aY ?_;refine xp rfl (bK rfl rfl L.length rfl ha3) ?_;refine xp rfl (aE rfl (hrow3 0 _ rfl)) ?_;refine aa ?_;refine bF (fun hc2=>?_) (fun hc2=>?_)
       · obtain⟨y,hy⟩:∃y,d.rule[k]? =some y:=⟨_,List.getElem?_eq_getElem (by omega)⟩
         obtain⟨b4,o4,cs4,ha4,_,hrow4,rfl⟩:=hget1 k y hy;refine aa ?_;refine xp rfl (aE rfl (hkk.cell (i:=1) rfl)) ?_;refine aY ?_;refine xp rfl (bK rfl rfl k rfl ha4) ?_;refine xp rfl (aE rfl (hrow4 0 _ rfl)) ?_;refine aY ?_;refine eW ?_;refine cU ?_
         iterate 2 refine aY ?_
         refine xp rfl (bK rfl rfl L.length rfl rfl) ?_;refine xp rfl (aE rfl (mk.get hg3)) ?_
         iterate 4 refine aY ?_
         refine xp rfl (bK rfl rfl k rfl rfl) ?_;refine bN rfl (aI H.tg rfl rfl rfl hcl hfz) ?_;rintro _ g4 ⟨rfl,hg4⟩;refine aa ?_;exact ih2 (k+1) ⟨fin _ _ _ (hru _ _ (by omega) hx) (hru _ _ (by omega) hy) hg4,by omega⟩
       · refine bT ?_;refine cU ?_
         iterate 2 refine aY ?_
         refine xp rfl (bK rfl rfl L.length rfl rfl) ?_;refine xp rfl (aE rfl (mk.get hg3)) ?_
         iterate 4 refine aY ?_
         refine xp rfl (bK rfl rfl k rfl rfl) ?_;refine bN rfl (aI H.tg rfl rfl rfl hcl hfz) ?_;rintro _ g4 ⟨rfl,hg4⟩;refine aa ?_;exact ih2 (k+1) ⟨fin _ _ _ (hru _ _ (by omega) hx) (hrn _ (by omega)) hg4,by omega⟩
     · refine aa ?_;refine bF (fun hc2=>?_) (fun hc2=>?_)
       · obtain⟨y,hy⟩:∃y,d.rule[k]? =some y:=⟨_,List.getElem?_eq_getElem (by omega)⟩
         obtain⟨oa',n',c',hv',_,_,_,hget1⟩:=id (hslR.mv (Mv.ah hkr));cases hv';obtain⟨b4,o4,cs4,ha4,_,hrow4,rfl⟩:=hget1 k y hy;refine aa ?_;refine xp rfl (aE rfl (hkk.cell (i:=1) rfl)) ?_;refine aY ?_;refine xp rfl (bK rfl rfl k rfl ha4) ?_;refine xp rfl (aE rfl (hrow4 0 _ rfl)) ?_;refine aY ?_;refine eW ?_;refine cU ?_
         iterate 2 refine aY ?_
         refine xp rfl (bK rfl rfl L.length rfl rfl) ?_;refine xp rfl (aE rfl (mk.get hg3)) ?_
         iterate 4 refine aY ?_
         refine xp rfl (bK rfl rfl k rfl rfl) ?_;refine bN rfl (aI H.tg rfl rfl rfl hcl hfz) ?_;rintro _ g4 ⟨rfl,hg4⟩;refine aa ?_;exact ih2 (k+1) ⟨fin _ _ _ (hrn _ (by omega)) (hru _ _ (by omega) hy) hg4,by omega⟩
       · refine bT ?_;refine cU ?_
         iterate 2 refine aY ?_
         refine xp rfl (bK rfl rfl L.length rfl rfl) ?_;refine xp rfl (aE rfl (mk.get hg3)) ?_
         iterate 4 refine aY ?_
         refine xp rfl (bK rfl rfl k rfl rfl) ?_;refine bN rfl (aI H.tg rfl rfl rfl hcl hfz) ?_;rintro _ g4 ⟨rfl,hg4⟩;refine aa ?_;exact ih2 (k+1) ⟨fin _ _ _ (hrn _ (by omega)) (hrn _ (by omega)) hg4,by omega⟩
   · obtain rfl:k=d.next.length+1:=by omega
     have hb1:(eT d).take (L.length+1)=(eT d).take L.length++[cT d L.length]:=by rw[List.take_add_one,wO (by omega)];rfl
     rw[Nat.sub_self,List.replicate_zero,List.append_nil,List.take_of_length_le (l:=cT d L.length) (by rw[iB];omega),<-hb1] at mk;refine aa ?_;exact ih (L.length+1,L++[g.size]) ⟨mk,by simp,by show L.length+1<=_;omega⟩
 · obtain rfl:i=d.next.length+1:=by omega
   rw[List.take_of_length_le (by simp[eT])] at mk;have hF:u5 h g (d.next.length+1) h.size L (eT d):=⟨mk,hL,Bv⟩
   have hS:=Cl (d:=d);generalize eT d=M0 at *;clear hgetn hgetr;refine aa ?_;refine fG (σ:=List (List Bool)×Bool) (fun q=>[(9,.bool q.2)]) (fun q h'=>u5 h h' (d.next.length+1) h.size L q.1/\sI d q.1/\(q.2=false->sJ d q.1)) (fun q=>2*nC q.1+(if q.2 then 1 else 0)) ((M0,true)) ⟨hF,hS,fun q=>by cases q⟩ rfl ?_;rintro⟨M,ag⟩ g ⟨hF,hS,hP⟩ ih
   try dsimp only
   dsimp only at hF hS hP;refine aa ?_;refine jX (fun hag=>?_) (fun hag=>?_)
   · subst hag;refine aa ?_;refine fG (σ:=Nat×List (List Bool)×Bool) (fun q=>[(9,.bool q.2.2),(10,.int .i64 (q.1:Nat))]) (fun q h'=>ET d h h' h.size L (nC M) q.2.1 q.2.2/\q.1<=d.next.length+1/\(q.2.2=false->yy d q.2.1 q.1 0)) (fun q=>d.next.length+1-q.1) ((0,M,false)) ⟨⟨hF,hS,Nat.le_refl _,fun q=>by cases q⟩,Nat.zero_le _,fun _=>yy.zero⟩ rfl ?_;rintro⟨i,M1,ag⟩ g1 ⟨a1,hi,hcl⟩ ih1
     try dsimp only
     dsimp only at a1 hi hcl;refine aa ?_;refine bF (fun hlt1=>?_) (fun hlt1=>?_)
     · refine aa ?_;refine fG (σ:=Nat×List (List Bool)×Bool) (fun q=>[(9,.bool q.2.2),(11,.int .i64 (q.1:Nat))]) (fun q h'=>ET d h h' h.size L (nC M) q.2.1 q.2.2/\q.1<=d.next.length+1/\(q.2.2=false->yy d q.2.1 i q.1)) (fun q=>d.next.length+1-q.1) ((0,M1,ag)) ⟨a1,Nat.zero_le _,hcl⟩ rfl ?_;rintro⟨k,M2,ag2⟩ g2 ⟨a2,hk2,hcl2⟩ ih2
       try dsimp only
       dsimp only at a2 hk2 hcl2;refine aa ?_;refine bF (fun hlt2=>?_) (fun hlt2=>?_)
       · refine aa ?_;refine fG (σ:=Nat×List (List Bool)×Bool) (fun q=>[(9,.bool q.2.2),(12,.int .i64 (q.1:Nat))]) (fun q h'=>ET d h h' h.size L (nC M) q.2.1 q.2.2/\q.1<=256/\(q.2.2=false->yy d q.2.1 i k/\BR d q.2.1 i k q.1)) (fun q=>256-q.1) ((0,M2,ag2)) ⟨a2,Nat.zero_le _,fun q=>⟨hcl2 q,BR.zero⟩⟩ rfl ?_;rintro⟨b,M3,BQ⟩ g3 ⟨a3,hb3,hcl3⟩ ih3
         try dsimp only
         dsimp only at a3 hb3 hcl3;obtain⟨gi,ri,hgi,hri,hril⟩:=a3.f.at (show i<d.next.length+1 by omega);have hci:=a3.f.mat.get hgi;have hcx:=a3.f.mat.cell hgi (show k<d.next.length+1 by omega)
         iterate 2 refine bT ?_
         refine jY [(88,.bool (decide (b<256) && !jV M3 i k))] rfl ?_ ?_
         · refine aa ?_;refine ie 79 (fun hg1=>?_) (fun hg1=>?_)
           · have hg1':=of_decide_eq_true hg1
             iterate 2 refine aY ?_
             refine xp rfl (bK rfl rfl i rfl rfl) ?_;refine xp rfl (aE rfl hci) ?_;refine aY ?_;refine xp rfl (bK rfl rfl k rfl rfl) ?_;refine xp rfl (aE rfl hcx) ?_;refine aa ?_;exact bH rfl ⟨au rfl (by rw[decide_eq_true (show b<256 by omega),Bool.true_and]),sb rfl⟩
           · have hg1':=of_decide_eq_false hg1;refine aa ?_;exact bH rfl ⟨au rfl (by rw[decide_eq_false (show ¬b<256 by omega),Bool.false_and]),sb rfl⟩
         · refine jX (fun hcond=>?_) (fun hcond=>?_)
           · rw[Bool.and_eq_true] at hcond;have hb:=of_decide_eq_true hcond.1;have hmf:jV M3 i k=false:=by simpa using hcond.2
             have hkg:=kt.ah a3.f.mat.ext;have ht1:=mg hok i (UInt8.ofNat b);have ht2:=mg hok k (UInt8.ofNat b);obtain⟨gt,rt,hgt,hrt,hrtl⟩:=a3.f.at (show oV d i (UInt8.ofNat b)<d.next.length+1 by omega);have hct:=a3.f.mat.get hgt;have hcy:=a3.f.mat.cell hgt (show oV d k (UInt8.ofNat b)<d.next.length+1 by omega);refine aa ?_;refine Af 13 13 ?_;refine aS 0 ?_;refine aS 1 ?_;refine aS 2 ?_;refine aS 3 ?_;refine aS 7 ?_;refine aS 8 ?_;refine aS 9 ?_;refine eZ 4 rfl (bz rfl (qs hkg hok (i:=i) (b:=b) (by omega) hb)) ?_;rintro _ g4 ⟨rfl,hg4⟩;refine⟨fun _=>by subst hg4;exact Ext.refl _ _,?_⟩;subst hg4;refine bL 5 rfl (fun h' e=>bK rfl rfl (oV d i (UInt8.ofNat b)) rfl rfl) ?_;refine bL 6 rfl (fun h' e=>aE rfl (e.old hct)) ?_;refine eZ 10 rfl (bz rfl (qs hkg hok (i:=k) (b:=b) (by omega) hb)) ?_;rintro _ g4 ⟨rfl,hg4⟩;refine⟨fun _=>by subst hg4;exact Ext.refl _ _,?_⟩;subst hg4;refine bL 11 rfl (fun h' e=>bK rfl rfl (oV d k (UInt8.ofNat b)) rfl rfl) ?_;refine bL 12 rfl (fun h' e=>aE rfl (e.old hcy)) ?_;refine lg ?_;refine jX (fun hy=>?_) (fun hy=>?_)
             · obtain⟨hfz,hput⟩:=a3.f.mat.put hgi hri (show k<d.next.length+1 by omega) true;refine cU ?_
               iterate 2 refine aY ?_
               refine xp rfl (bK rfl rfl i rfl rfl) ?_;refine xp rfl (aE rfl hci) ?_;refine aY ?_;refine xp rfl (bK rfl rfl k rfl rfl) ?_;refine bN rfl (aI H.tg rfl rfl rfl hcx hfz) ?_;rintro _ g5 ⟨rfl,hg5⟩;rw[<-hg5] at hput
               have hrk:ri[k]? =some false:=by
                have h1:ri[k]? =some (ri[k]'(by omega)):=List.getElem?_eq_getElem (by omega);rw[xI hri h1] at hmf;rw[h1,hmf]
               have hlt5:=vQ M3 i k ri hri hrk;have hle5:=a3.le;have hs5:=sI.put hok a3.s (show i<=d.next.length by omega) (show k<=d.next.length by omega) hri (by omega) hy;have a5:ET d h g5 h.size L (nC M) (M3.set i (ri.set k true)) true:=⟨⟨hput,a3.f.ln,a3.f.sq.put hri true⟩,hs5,by omega,fun _=>by omega⟩
               refine aa ?_;exact ih3 (b+1,_,true) ⟨a5,by show b+1<=256;omega,fun q=>by cases q⟩
             · refine aa ?_;exact ih3 (b+1,M3,BQ) ⟨a3,by show b+1<=256;omega,fun q=>⟨(hcl3 q).1,(hcl3 q).2.step hb hy⟩⟩
           · have hB:BQ=false->BR d M3 i k 256:=fun q=>by
              rcases Nat.lt_or_ge b 256 with hb|hb
              · rw[decide_eq_true hb,Bool.true_and] at hcond;intro hf;rw[hf] at hcond;cases hcond
              · obtain rfl:b=256:=by omega
                exact(hcl3 q).2
             refine aa ?_;exact ih2 (k+1,M3,BQ) ⟨a3,by show k+1<=d.next.length+1;omega,fun q=>(hcl3 q).1.next (hB q)⟩
       · obtain rfl:k=d.next.length+1:=by omega
         refine aa ?_;exact ih1 (i+1,M2,ag2) ⟨a2,by show i+1<=d.next.length+1;omega,fun q=>(hcl2 q).line⟩
     · obtain rfl:i=d.next.length+1:=by omega
       have hm:2*nC M1+(if ag then 1 else 0)<2*nC M+1:=by
        have:=a1.le;cases hg:ag with
        |true=>have:=a1.lt hg;simp;omega
        |false=>simp;omega
       refine aa ?_;exact ih (M1,ag) ⟨a1.f,a1.s,fun q=>yy.all a1.s (hcl q)⟩ hm
   · refine aa ?_;refine bU ?_;exact⟨_,rfl,h.size,L,M,rfl,hF,hP hag⟩
end
end Go.Proofs.YtbbjkiigpdjaaaaDoor
namespace Go.Proofs.YtbbjkiigpdjaaaaDoor
open Go Go.Lw
set_option maxRecDepth 20000
section
variable {M:Nat->Prop}{h':af}{t:TypeId}{n:Nat}{w:Value}{css:List (List Value)}
structure bS (h0 h:af) (C:Nat->Prop) (db:Nat) (vn vr:Value) (next:List Row) (rule:List Int):Prop where
  ext:ak h0 h
  dblk:aB h db 41 [vn,vr]
  nx:cN EP (fun b=>¬C b) h h0.size 39 vn next
  ru:aT (Value.int .i64) h h0.size 3 vr rule
  cty:∀b,C b->aW h b 3
  cr:∀b,vr.ownBlock=some b->¬C b
  dge:h0.size<=db
section
variable {h0 h:af}{C:Nat->Prop}{db:Nat}{vn vr:Value}{next:List Row}{rule:List Int}
theorem bS.qh (k:bS h0 h C db vn vr next rule):∀b,vn.ownBlock=some b->aW h b 39:=fun _ hb=>by obtain⟨_,q⟩:=k.nx.own;exact aj.ty q hb
theorem bS.Gh (k:bS h0 h C db vn vr next rule):∀b,vn.ownBlock=some b->h0.size<=b:=fun _ hb=>by obtain⟨_,q⟩:=k.nx.own;exact(aj.lt q hb).1
theorem bS.pY (k:bS h0 h C db vn vr next rule):∀b,vr.ownBlock=some b->aW h b 3:=fun _ hb=>aj.ty k.ru hb
theorem bS.ext' (k:bS h0 h C db vn vr next rule) (x:Ext M h h') (hge:∀b,M b->h0.size<=b) (hC:∀b,C b->¬M b) (hn:∀b,vn.ownBlock=some b->¬M b) (hr:∀b,vr.ownBlock=some b->¬M b) (hd:¬M db):bS h0 h' C db vn vr next rule :=
  ⟨⟨Nat.le_trans k.ext.size x.size,fun b hb kk=>by
    rw[x.block b (by have:=k.ext.size;omega) (fun e=>by have:=hge b e;omega)];exact k.ext.block b hb kk⟩,k.dblk.ext x hd,k.nx.o9 x hn (fun b _ hm hc=>hC b hc hm) (fun _ _ q=>q),aj.ext x k.ru hr,fun b hb=>(k.cty b hb).ext x (hC b hb),k.cr,k.dge⟩
theorem bS.ah (k:bS h0 h C db vn vr next rule) (e:ak h h'):bS h0 h' C db vn vr next rule :=
  k.ext' e (fun _ q=>q.elim) (fun _ _ q=>q) (fun _ _ q=>q) (fun _ _ q=>q) (fun q=>q)
theorem bS.other {sz base:Nat}{v:Value}{xs:List Value}(k:bS h0 h C db vn vr next rule) (ho:aj h base t sz v n xs) (x:Ext (bw v.ownBlock) h h') (hb:h0.size<=base) (h1:t≠3) (h2:t≠39) (h3:t≠41):bS h0 h' C db vn vr next rule :=
  k.ext' x (fun b e=>by have:=(aj.lt ho e.symm).1;omega) (fun b q e=>(show aW h b t from aj.ty ho e.symm).ne (k.cty b q) h1 rfl) (fun b q e=>(show aW h b t from aj.ty ho e.symm).ne (k.qh b q) h2 rfl) (fun b q e=>(show aW h b t from aj.ty ho e.symm).ne (k.pY b q) h1 rfl) (fun e=>(show aW h db t from aj.ty ho e.symm).ne k.dblk.ty h3 rfl)
theorem bS.ints {base:Nat}{v:Value}{xs:List Value}(k:bS h0 h C db vn vr next rule) (ho:aj h base 3 1 v n xs) (x:Ext (bw v.ownBlock) h h') (hb:h0.size<=base) (h1:∀b,v.ownBlock=some b->¬C b) (h2:∀b,v.ownBlock=some b->vr.ownBlock≠some b):bS h0 h' C db vn vr next rule :=
  k.ext' x (fun b e=>by have:=(aj.lt ho e.symm).1;omega) (fun b q e=>h1 b e.symm q) (fun b q e=>(show aW h b 3 from aj.ty ho e.symm).ne (k.qh b q) (by decide) rfl) (fun b q e=>h2 b e.symm q) (fun e=>(show aW h db 3 from aj.ty ho e.symm).ne k.dblk.ty (by decide) rfl)
theorem bS.more {C':Nat->Prop}(k:bS h0 h C db vn vr next rule) (hC:∀b,C b->C' b) (ht:∀b,C' b->aW h b 3) (hr:∀b,vr.ownBlock=some b->¬C' b):bS h0 h C' db vn vr next rule :=
  ⟨k.ext,k.dblk,k.nx.o9 (Ext.refl (fun _=>False) _) (fun _ _ q=>q) (fun _ _ q=>q.elim) (fun b _ q hc=>q (hC b hc)),k.ru,ht,hr,k.dge⟩
theorem bS.zf {g3 g4:af}{v3:Value}{r:Row}(k:bS h0 h C db vn vr next rule) (h1:css.length=next.length) (h3:∀(i:Nat) (cs:List Value) (x:Row),css[i]? =some cs->next[i]? =some x->EP.R h (fun b=>bw vn.ownBlock b\/¬C b) cs x)
    (ho:aj g3 h0.size 39 1 v3 (next.length+1) (css.flatten++[w])) (hx:Ext (bw vn.ownBlock) h g3) (hv:∀b,v3.ownBlock=some b->vn.ownBlock=some b\/h.size<=b) (hw:aP (.int .i64) h (fun b=>bw vn.ownBlock b\/¬C b) w r.v) (hd:aB g4 db 41 [v3,vr]) (x4:Ext (fun b=>b=db) g3 g4) :
    bS h0 g4 C db v3 vr (next++[r]) rule:=by
  have nne:∀{b:Nat}{t:TypeId},aW h b t->39≠t->¬bw vn.ownBlock b:=fun kt ht e=>(k.qh _ e.symm).ne kt ht rfl
  have d3:=k.dblk.ext hx (nne k.dblk.ty (by decide));have l7:∀{b:Nat}{t:TypeId},aW g3 b t->41≠t->¬b=db:=fun kt ht e=>by subst e;exact d3.ty.ne kt ht rfl
  have c3:∀b,C b->aW g3 b 3:=fun b hb=>(k.cty b hb).ext hx (nne (k.cty b hb) (by decide))
  have ru3:=aj.ext hx k.ru (fun b hb=>nne (k.pY b hb) (by decide));have nx3:cN EP (fun b=>¬C b) g3 h0.size 39 v3 (next++[r]):=cN.fo (h:=h) (v:=vn) (css:=css) (cs:=[w]) h1 h3 ho hx hv ⟨w,rfl,hw⟩;refine⟨⟨by have:=k.ext.size;have:=hx.size;have:=x4.size;omega,fun b hb kk=>?_⟩,hd,nx3.o9 x4 (fun b hb=>l7 (aj.ty ho hb) (by decide)) (fun b _ hm hc=>by subst hm;exact l7 (c3 b hc) (by decide) rfl) (fun _ _ q=>q),aj.ext x4 ru3 (fun b hb=>l7 (aj.ty ru3 hb) (by decide)),fun b hb=>(c3 b hb).ext x4 (l7 (c3 b hb) (by decide)),k.cr,k.dge⟩;rw[x4.block b (by have:=k.ext.size;have:=hx.size;omega) (by have:=k.dge;omega),hx.block b (by have:=k.ext.size;omega) (fun e=>by have:=k.Gh b e.symm;omega)];exact k.ext.block b hb kk
theorem bS.ze {g3 g4:af}{v3:Value}{x:Int}(k:bS h0 h C db vn vr next rule) (hn:n=rule.length) (ho:aj g3 h0.size 3 1 v3 (n+1) (rule.map (Value.int .i64)++[.int .i64 x])) (hx:Ext (bw vr.ownBlock) h g3) (hv:∀b,v3.ownBlock=some b->vr.ownBlock=some b\/h.size<=b) (hd:aB g4 db 41 [vn,v3]) (x4:Ext (fun b=>b=db) g3 g4) :
    bS h0 g4 C db vn v3 next (rule++[x]):=by
  have nne:∀{b:Nat}{t:TypeId},aW h b t->3≠t->¬bw vr.ownBlock b:=fun kt ht e=>(k.pY _ e.symm).ne kt ht rfl
  have d3:=k.dblk.ext hx (nne k.dblk.ty (by decide));have l7:∀{b:Nat}{t:TypeId},aW g3 b t->41≠t->¬b=db:=fun kt ht e=>by subst e;exact d3.ty.ne kt ht rfl
  have c3:∀b,C b->aW g3 b 3:=fun b hb=>(k.cty b hb).ext hx (fun e=>k.cr b e.symm hb)
  have nx3:=k.nx.o9 hx (fun b hb=>nne (k.qh b hb) (by decide)) (fun b _ hm hc=>k.cr b hm.symm hc) (fun _ _ q=>q);have n3:∀b,vn.ownBlock=some b->aW g3 b 39:=fun b hb=>(k.qh b hb).ext hx (nne (k.qh b hb) (by decide))
  refine⟨⟨by have:=k.ext.size;have:=hx.size;have:=x4.size;omega,fun b hb kk=>?_⟩,hd,nx3.o9 x4 (fun b hb=>l7 (n3 b hb) (by decide)) (fun b _ hm hc=>by subst hm;exact l7 (c3 b hc) (by decide) rfl) (fun _ _ q=>q),aj.ext x4 (aT.of (ys:=[x]) ho hn rfl rfl) (fun b hb=>l7 (aj.ty ho hb) (by decide)),fun b hb=>(c3 b hb).ext x4 (l7 (c3 b hb) (by decide)),fun b hb hc=>?_,k.dge⟩
  · rw[x4.block b (by have:=k.ext.size;have:=hx.size;omega) (by have:=k.dge;omega),hx.block b (by have:=k.ext.size;omega) (fun e=>by have:=(aj.lt k.ru e.symm).1;omega)];exact k.ext.block b hb kk
  · rcases hv b hb with e|e
    · exact k.cr b e hc
    · have:=(k.cty b hc).lt;omega
theorem bS.DN (k:bS h0 h C db vn vr next rule):wU h db ⟨next,rule⟩ :=
  ⟨vn,vr,k.dblk,k.nx.tB (fun _ _ q=>q) (fun _ _ q=>q.elim),aT.read (h1:=fun _=>rfl) k.ru (fun _ _ q=>q)⟩
end
structure gF (base:Nat) (h:af) (D:Nat->Prop) (v:Value) (l:Pl):Prop where
  rows:cN mL (fun b=>¬D b) h base 61 v l
  ty:∀b,D b->aW h b 4
section
variable {base:Nat}{h:af}{D:Nat->Prop}{v:Value}{l:Pl}
theorem gF.nil (base:Nat) (h:af):gF base h (fun _=>False) (.slice none 0 0) []:=⟨cN.nil _ _ _ _ _,fun _ q=>q.elim⟩
theorem gF.ah {h':af}(k:gF base h D v l) (e:ak h h'):gF base h' D v l:=⟨k.rows.ah e,fun b hb=>(k.ty b hb).ext e (fun q=>q)⟩
theorem gF.Ao (k:gF base h D v l):∀b,v.ownBlock=some b->aW h b 61:=fun _ hb=>by obtain⟨_,q⟩:=k.rows.own;exact aj.ty q hb
theorem gF.lt (k:gF base h D v l):∀b,v.ownBlock=some b->base<=b/\b<h.size:=fun _ hb=>by obtain⟨_,q⟩:=k.rows.own;exact aj.lt q hb
theorem gF.more {D':Nat->Prop}(k:gF base h D v l) (hD:∀b,D b->D' b) (ht:∀b,D' b->aW h b 4):gF base h D' v l :=
  ⟨k.rows.o9 (Ext.refl (fun _=>False) _) (fun _ _ q=>q) (fun _ _ q=>q.elim) (fun b _ q hc=>q (hD b hc)),ht⟩
theorem gF.push {g':af}{base2:Nat}{v':Value}{x:List Bool}(k:gF base h D v l) (hD:∀b,w.ownBlock=some b->D b) (h1:css.length=l.length) (h3:∀(i:Nat) (cs:List Value) (x:List Bool),css[i]? =some cs->l[i]? =some x->mL.R h (fun b=>bw v.ownBlock b\/¬D b) cs x)
    (ho:aj g' base 61 1 v' (l.length+1) (css.flatten++[w])) (hx:Ext (bw v.ownBlock) h g') (hv:∀b,v'.ownBlock=some b->v.ownBlock=some b\/h.size<=b) (hw:aT Value.bool h base2 4 w x):gF base g' D v' (l++[x]) :=
  ⟨cN.fo (h:=h) (v:=v) (css:=css) (cs:=[w]) h1 h3 ho hx hv ⟨w,rfl,aj.vD (h1:=fun _=>rfl) hw (fun b hb q=>q.elim (fun q=>(k.Ao b q.symm).ne (aj.ty hw hb) (by decide) rfl) (fun q=>q (hD b hb)))⟩,
   fun b hb=>(k.ty b hb).ext hx (fun e=>(k.Ao b e.symm).ne (k.ty b hb) (by decide) rfl)⟩
theorem gF.read (k:gF base h D v l):aP mL h (fun b=>¬(D b\/v.ownBlock=some b)) v l:=k.rows.tB (fun b hb q=>q (.inr hb)) (fun b _ q hd=>q (.inl hd))
end
structure fE (base:Nat) (h:af) (D:Nat->Prop) (v:Value) (ps:List Pl):Prop where
  rows:cN Fx (fun b=>¬D b) h base 98 v ps
  ty:∀b,D b->aW h b 4\/aW h b 61
section
variable {base:Nat}{h:af}{D:Nat->Prop}{v:Value}{ps:List Pl}
theorem fE.Ao (k:fE base h D v ps):∀b,v.ownBlock=some b->aW h b 98:=fun _ hb=>by obtain⟨_,q⟩:=k.rows.own;exact aj.ty q hb
theorem fE.l7 (k:fE base h D v ps){b:Nat}(hb:D b) (kt:aW h b t) (h1:4≠t) (h2:61≠t):False:=(k.ty b hb).elim (fun q=>q.ne kt h1 rfl) (fun q=>q.ne kt h2 rfl)
theorem fE.ah {h':af}(k:fE base h D v ps) (e:ak h h'):fE base h' D v ps:=⟨k.rows.ah e,fun b hb=>(k.ty b hb).imp (fun q=>q.ext e (fun q=>q)) (fun q=>q.ext e (fun q=>q))⟩
theorem fE.ext' (k:fE base h D v ps) (x:Ext M h h') (hn:∀b,v.ownBlock=some b->¬M b) (hD:∀b,D b->¬M b):fE base h' D v ps :=
  ⟨k.rows.o9 x hn (fun b _ hm hc=>hD b hc hm) (fun _ _ q=>q),fun b hb=>(k.ty b hb).imp (fun q=>q.ext x (hD b hb)) (fun q=>q.ext x (hD b hb))⟩
theorem fE.other (k:fE base h D v ps) (x:Ext M h h') (ht:∀b,M b->aW h b t) (h1:4≠t) (h2:61≠t) (h3:98≠t):fE base h' D v ps :=
  k.ext' x (fun b hb e=>(k.Ao b hb).ne (ht b e) h3 rfl) (fun b hb e=>k.l7 hb (ht b e) h1 h2)
theorem fE.more {D':Nat->Prop}(k:fE base h D v ps) (hD:∀b,D b->D' b) (ht:∀b,D' b->aW h b 4\/aW h b 61):fE base h D' v ps :=
  ⟨k.rows.o9 (Ext.refl (fun _=>False) _) (fun _ _ q=>q) (fun _ _ q=>q.elim) (fun b _ q hc=>q (hD b hc)),ht⟩
theorem fE.push {g':af}{base2:Nat}{D2:Nat->Prop}{v':Value}{l:Pl}(k:fE base h D v ps) (hD:∀b,D2 b\/w.ownBlock=some b->D b) (h1:css.length=ps.length) (h3:∀(i:Nat) (cs:List Value) (x:Pl),css[i]? =some cs->ps[i]? =some x->Fx.R h (fun b=>bw v.ownBlock b\/¬D b) cs x)
    (ho:aj g' base 98 1 v' (ps.length+1) (css.flatten++[w])) (hx:Ext (bw v.ownBlock) h g') (hv:∀b,v'.ownBlock=some b->v.ownBlock=some b\/h.size<=b) (hw:gF base2 h D2 w l):fE base g' D v' (ps++[l]) :=
  ⟨cN.fo (h:=h) (v:=v) (css:=css) (cs:=[w]) h1 h3 ho hx hv ⟨w,rfl,hw.read.mv ⟨Nat.le_refl _,fun b _ hn=>⟨rfl,fun q=>hn fun q2=>q.elim (fun q=>k.l7 (hD b q2) (k.Ao b q.symm) (by decide) (by decide)) (fun q=>q (hD b q2))⟩⟩⟩,
   fun b hb=>(k.ty b hb).imp (fun q=>q.ext hx (fun e=>(k.Ao b e.symm).ne q (by decide) rfl)) (fun q=>q.ext hx (fun e=>(k.Ao b e.symm).ne q (by decide) rfl))⟩
theorem fE.get (k:fE base h D v ps){i:Nat}{x:Pl}(hx:ps[i]? =some x):∃g c w,v= .slice (some ⟨g,0,none⟩) ps.length c/\base<=g/\g<h.size/\cellAt h ⟨g,0+i*1,none⟩=some w/\aP mL h (fun _=>False) w x:=by
  obtain⟨g,c,cs,hv,h1,h2,hrow,_,⟨w,rfl,hw⟩,_⟩:=k.rows.put hx;exact⟨g,c,w,hv,h1,h2,hrow 0 w rfl,cK hw (fun _ q=>q.elim)⟩
end
end
end Go.Proofs.YtbbjkiigpdjaaaaDoor
namespace Go.Proofs.YtbbjkiigpdjaaaaDoor
open Go.Proofs.Tryd
open Go Go.Lw
set_option maxRecDepth 20000 set_option maxHeartbeats 4000000
section
variable {h:af}
theorem zq (rs:List dN) (cur:Pl) (ps:List Pl) (b:Nat):ps.length<=(eK rs cur ps b).1.length/\(eK rs cur ps b).1.length<=ps.length+1:=by
 unfold eK;split
 · exact⟨Nat.le_refl _,by simp⟩
 · split
   · exact⟨Nat.le_refl _,by simp⟩
   · simp
theorem zV {O:Nat->Prop}{v:Value}{rs:List dN}(hr:aP Dt h O v rs) (hok:zY rs) (hrl:rs.length<=1000) :
 an Tryd.prog 18 #[v,.int .i64 60] h (b8 fun r h'=>((ym rs 60=none/\r= .tuple #[.pointer none,.bool false])\/∃d db,ym rs 60=some d/\r= .tuple #[.pointer (some ⟨db,0,none⟩),.bool true]/\wU h' db d)/\ak h h'):=by
 generalize hres:ym rs 60=res
 have hbig:∀a:Pl,ij rs a->∀x∈a,x.length<=1000000:=fun a ka x hx=>by
  obtain⟨i,hi⟩:=List.getElem?_of_mem hx;obtain⟨r,hri⟩:∃r,rs[i]? =some r:=⟨_,List.getElem?_eq_getElem (by have:=ka.len;have:=(List.getElem?_eq_some_iff.1 hi).1;omega)⟩
  obtain⟨n,hn,hn2⟩:=hok r (List.mem_of_getElem? hri);have h1:=ka.at hri hi;have h2:=hn.sets;omega
 obtain⟨orr,nr,cr,rfl,hrs⟩:=id hr.open;have hnr:=hrs.len;have hncr:=hrs.le;have hcap:=hrs.cap;simp only[maxLen] at hcap;refine cV ?_;refine aa ?_;refine xp rfl (aq (H.CY ) rfl) ?_;refine xo rfl (wY) ?_;rintro _ h1 ⟨rfl,kd,e1,z1⟩;have kd:aB h1 h.size 41 [.slice none 0 0,.slice none 0 0]:=kd;have ko:bS h h1 (fun _=>False) h.size (.slice none 0 0) (.slice none 0 0) [] []:=⟨e1,kd,cN.nil _ _ _ _ _,aT.nil _ _ _ _,fun _ q=>q.elim,fun _ _ q=>q,Nat.le_refl _⟩
 have hz1:=e1.size;refine aa ?_;refine fG (σ:=Nat×Value) (fun q=>[(7,q.2),(8,.int .i64 (q.1:Nat))]) (fun q h'=>(∃D,gF h1.size h' D q.2 ((cB rs).take q.1))/\ak h1 h'/\q.1<=nr) (fun q=>nr-q.1) ((0,.slice none 0 0)) ⟨⟨_,gF.nil _ _⟩,Ext.refl _ _,Nat.zero_le _⟩ rfl ?_;rintro⟨i,v7⟩ g ⟨⟨D,kp⟩,eg,hi⟩ ih
 try dsimp only
 dsimp only at kp hi;have hsl:(cB rs).length=rs.length:=by simp[cB]
 refine aa ?_;refine bF (fun hlt=>?_) (fun hlt=>?_)
 · obtain⟨r,hri⟩:∃r,rs[i]? =some r:=⟨_,List.getElem?_eq_getElem (by omega)⟩
   obtain⟨b2,o2,cs2,ha2,_,hrow2,rb,rfl,hrd⟩:=(hrs.mv (Mv.ah (e1.trans eg))).get i r hri;obtain⟨n,hru,hn⟩:=hok r (List.mem_of_getElem? hri);have htl:((cB rs).take i).length=i:=by rw[List.length_take];omega
   iterate 3 refine bT ?_
   refine cU ?_
   iterate 3 refine aY ?_
   refine xp rfl (bK rfl rfl i rfl ha2) ?_;refine xp rfl (aE rfl (hrow2 0 _ rfl)) ?_;refine xo rfl (bz rfl (uj hrd hru hn)) ?_;rintro w5 g5 ⟨ho5,e5⟩;obtain⟨l5,c5,rfl,_⟩:=(show aj g5 g.size 4 1 w5 _ _ from ho5).open;generalize hw5:Value.slice l5 (mj r).length c5=w5 at ho5;have k5:gF h1.size g5 (fun b=>D b\/w5.ownBlock=some b) v7 ((cB rs).take i):=(kp.ah e5).more (fun _ q=>.inl q) (fun b q=>q.elim (fun q=>(kp.ah e5).ty b q) (fun q=>aj.ty ho5 q));obtain⟨css,hc1,hc2,hc3⟩:=id k5.rows;have hze:=eg.size;have hz5:=e5.size;subst hw5;refine xo rfl (ji [_]) ?_;rintro _ _ ⟨rfl,rfl⟩;refine xo rfl (oS rfl rfl hc2 rfl rfl) ?_;rintro v8 g8 ⟨ho8,hx8,hx8',hv8⟩;have k8:=k5.push (fun _ q=>.inr q) hc1 hc3 ho8 hx8 hv8 ho5;have e8:ak h1 g8:=Ext.own (eg.trans e5) hc2 (Nat.le_refl _) hx8;have hnx:(cB rs).take (i+1)=(cB rs).take i++[mj r]:=by rw[List.take_add_one,cB,List.getElem?_map,hri];rfl
   rw[<-hnx] at k8;refine aa ?_;exact ih (i+1,v8) ⟨⟨_,k8⟩,e8,by show i+1<=nr;omega⟩
 · rw[List.take_of_length_le (by omega)] at kp;have ko:=ko.ah eg;have hze:=eg.size;have kph:=kp.read;obtain⟨wa,wn,wc,rfl,_⟩:=id kph.open;refine aa ?_;refine xo rfl (ji [_]) ?_;rintro _ _ ⟨rfl,rfl⟩;refine aa ?_
   have hps:fE h.size (g.push (.cells #[.slice wa wn wc] 98)) (fun b=>D b\/(Value.slice wa wn wc).ownBlock=some b) (.slice (some ⟨g.size,0,none⟩) 1 1) [cB rs] :=
    ⟨cN.lT (e:=Fx) (cs:=[.slice wa wn wc]) ⟨_,rfl,kph⟩ (by omega),fun b q=>q.elim (fun q=>.inl ((kp.ty b q).ext (Ext.push (fun _=>False) g _) (fun q=>q))) (fun q=>.inr ((kp.Ao b q).ext (Ext.push (fun _=>False) g _) (fun q=>q)))⟩
   have ko:=ko.ah (Ext.push (fun _=>False) g (.cells #[.slice wa wn wc] 98));generalize g.push (.cells #[.slice wa wn wc] 98)=g1 at *;have hG0:uW rs 60 62 0 [cB rs] [] []=res:=hres;clear ih kp kph;generalize (fun b=>D b\/(Value.slice wa wn wc).ownBlock=some b)=D1 at hps;generalize (Value.slice (some ⟨g.size,0,none⟩) 1 1)=vp0 at hps ⊢;refine fG (σ:=Nat×Value) (fun q=>[(9,q.2),(10,.int .i64 (q.1:Nat))]) (fun q h'=>∃C D vn vr ps next rule,bS h h' C h.size vn vr next rule/\fE h.size h' D q.2 ps/\(q.1<=ps.length/\ps.length<=60/\next.length=q.1/\rule.length=q.1)/\(∀a∈ps,ij rs a)/\uW rs 60 (62-q.1) q.1 ps next rule=res) (fun q=>61-q.1) ((0,vp0)) ⟨_,D1,_,_,[cB rs],[],[],ko,hps,⟨Nat.zero_le _,by simp,rfl,rfl⟩,fun a ha=>by rw[List.mem_singleton.1 ha];exact AA hok,hG0⟩ rfl ?_;rintro⟨k,vp⟩ g2 ⟨C,D,vn,vr,ps,next,rule,ko,kps,⟨hk,hps60,hnl,hrll⟩,hall,hG⟩ ih
   try dsimp only
   dsimp only at kps hk hnl hrll hG;obtain⟨css0,q1,q2,q3⟩:=id kps.rows;obtain⟨pa,pc,rfl,_⟩:=q2.open;refine aa ?_;refine bF (fun hlt=>?_) (fun hlt=>?_)
   · have hkl:k<ps.length:=by omega
     obtain⟨cur,hcur⟩:∃cur,ps[k]? =some cur:=⟨_,List.getElem?_eq_getElem hkl⟩
     have hcok:=hall cur (List.mem_of_getElem? hcur);obtain⟨n,hnn⟩:∃n,62-k=n+1:=⟨61-k,by omega⟩
     rw[hnn,uW,hcur] at hG;dsimp only at hG;generalize htgt:gm rs cur 256 0 ps []=tgt at hG;have hCg:∀b,C b->b<g2.size:=fun b hb=>(ko.cty b hb).lt
     have hrg:∀b,vr.ownBlock=some b->b<g2.size:=fun b hb=>(ko.pY b hb).lt
     have hz2:=ko.ext.size;refine aa ?_;refine fG (σ:=Nat×Value×Value) (fun q=>[(9,q.2.1),(11,q.2.2),(12,.int .i64 (q.1:Nat))]) (fun q h'=>∃D ps row,bS h h' C h.size vn vr next rule/\fE h.size h' D q.2.1 ps/\aT (Value.int .i64) h' g2.size 3 q.2.2 row/\(q.1<=256/\row.length=q.1/\ps.length<=60+q.1/\ps[k]? =some cur/\g2.size<=h'.size)/\(∀a∈ps,ij rs a)/\gm rs cur (256-q.1) q.1 ps row=tgt) (fun q=>256-q.1) ((0,.slice pa ps.length pc,.slice none 0 0)) ⟨D,ps,[],ko,kps,aT.nil _ _ _ _,⟨Nat.zero_le _,rfl,by show _<=60+0;omega,hcur,Nat.le_refl _⟩,hall,htgt⟩ rfl ?_;rintro⟨b,vp,vw⟩ g3 ⟨D,ps,row,ko,kps,kw,⟨hb256,hwl,hpsb,hcur,hz23⟩,hall,hrow⟩ ih2
     try dsimp only
     dsimp only at kps kw hb256 hwl hpsb hrow;clear q1 q2 q3;obtain⟨css0,q1,q2,q3⟩:=id kps.rows;obtain⟨pa,pc,rfl,_⟩:=q2.open;refine aa ?_;refine bF (fun hlt2=>?_) (fun hlt2=>?_)
     · have hb:b<256:=by omega
       obtain⟨m,hm⟩:∃m,256-b=m+1:=⟨255-b,by omega⟩
       rw[hm,gm] at hrow;have hub:(UInt8.ofNat b).toNat=b:=by simp;omega
       have hone:=zq rs cur ps b;generalize hst:eK rs cur ps b=st at hrow hone;unfold eK at hst;have hnok:=BX hok hcok (UInt8.ofNat b);have hnl2:=qu hcok (UInt8.ofNat b);obtain⟨gp,cp,wp,hvp,hgp1,hgp2,hcp,hwp⟩:=kps.get hcur;have hpa:pa=some ⟨gp,0,none⟩:=by cases hvp;rfl
       obtain⟨xa,xn,xc,rfl,hxl⟩:=id hwp.open;have hxn:=hxl.len;have hclen:=hcok.len;have hkl2:=(List.getElem?_eq_some_iff.1 hcur).1;have hrg3:=hrs.mv (Mv.ah ko.ext);generalize hnx:dI rs cur (UInt8.ofNat b)=nx at hst hnok hnl2;refine aa ?_;refine fG (σ:=Nat×Value) (fun q=>[(13,q.2),(14,.int .i64 (q.1:Nat))]) (fun q h'=>(∃D,gF g3.size h' D q.2 (nx.take q.1))/\ak g3 h'/\q.1<=nr) (fun q=>nr-q.1) ((0,.slice none 0 0)) ⟨⟨_,gF.nil _ _⟩,Ext.refl _ _,Nat.zero_le _⟩ rfl ?_;rintro⟨j,v13⟩ g4 ⟨⟨D4,kp⟩,eg,hj⟩ ih3
       try dsimp only
       dsimp only at kp hj;refine aa ?_;refine bF (fun hlt3=>?_) (fun hlt3=>?_)
       · obtain⟨r,hri⟩:∃r,rs[j]? =some r:=⟨_,List.getElem?_eq_getElem (by omega)⟩
         obtain⟨x,hx⟩:∃x,cur[j]? =some x:=⟨_,List.getElem?_eq_getElem (by omega)⟩
         obtain⟨b2,o2,cs2,ha2,_,hrow2,rb,rfl,hrd⟩:=hrg3.get j r hri;obtain⟨b3,o3,cs3,ha3,_,hrow3,wx,rfl,hwx⟩:=hxl.get j x hx;obtain⟨n2,hru,hn2⟩:=hok r (List.mem_of_getElem? hri);have hc2:=hrow2 0 _ rfl;have hc3:=hrow3 0 _ rfl;have hze:=eg.size;have htl:(nx.take j).length=j:=by rw[List.length_take];omega
         have hstep:=vu (h:=g4) (UInt8.ofNat b) (hrd.mv (Mv.ah eg)) hru (hwx.mv (Mv.ah eg)) (hcok.at hri hx) hn2;rw[hub] at hstep;have hkp:=kp;refine aa ?_;refine vg 18 (fun b=>Array.size g3<=b) (fun i=>Nat.blt i 18) ?_;refine aS 0 ?_;refine aS 1 ?_;refine aS 2 ?_;refine bL 3 rfl (fun h' e=>bK rfl rfl j rfl ha2) ?_;refine bL 4 rfl (fun h' e=>aE rfl (e.cell (Nat.not_le.2 (bI hc2)) (eg.cell (fun q=>q) hc2))) ?_;refine aS 5 ?_;refine aS 6 ?_;refine bL 7 rfl (fun h' e=>bK rfl rfl k rfl hpa) ?_;refine bL 8 rfl (fun h' e=>aE rfl (e.cell (Nat.not_le.2 (bI hcp)) (eg.cell (fun q=>q) hcp))) ?_;refine aS 9 ?_;refine bL 10 rfl (fun h' e=>bK rfl rfl j rfl ha3) ?_;refine bL 11 rfl (fun h' e=>aE rfl (e.cell (Nat.not_le.2 (bI hc3)) (eg.cell (fun q=>q) hc3))) ?_;refine aS 12 ?_;refine bL 13 rfl (fun h' e=>vj rfl (wrap_u8 ⟨by omega,by omega⟩)) ?_;refine eZ 14 rfl (bz rfl hstep) ?_;rintro w5 g5 ⟨ho5,e5⟩;refine⟨fun _=>e5.mono (fun _ _ q=>q.elim),?_⟩;obtain⟨l5,c5,rfl,_⟩:=(show aj g5 g4.size 4 1 w5 _ _ from ho5).open;generalize hw5:Value.slice l5 (eX r x (UInt8.ofNat b)).length c5=w5 at ho5;have k5:gF g3.size g5 (fun b=>D4 b\/w5.ownBlock=some b) v13 (nx.take j):=(kp.ah e5).more (fun _ q=>.inl q) (fun b q=>q.elim (fun q=>(kp.ah e5).ty b q) (fun q=>aj.ty ho5 q));obtain⟨css,hc1',hc2',hc3'⟩:=id k5.rows;have hz5:=e5.size;subst hw5;refine eZ 15 rfl (ji [_]) ?_;rintro _ _ ⟨rfl,rfl⟩;refine⟨fun _=>by first|exact Ext.push _ _ _|assumption,?_⟩;refine eZ 16 rfl (oS rfl rfl hc2' rfl rfl) ?_;rintro v8 g8 ⟨ho8,hx8,hx8',hv8⟩;refine⟨fun _=>hx8'.mono (fun b _ e=>(kp.lt b e.symm).1),?_⟩;have k8:=k5.push (fun _ q=>.inr q) hc1' hc3' ho8 hx8 hv8 ho5;have e8:ak g3 g8:=Ext.own (eg.trans e5) hc2' (Nat.le_refl _) hx8;have hnx1:nx.take (j+1)=nx.take j++[eX r x (UInt8.ofNat b)]:=by rw[List.take_add_one,<-hnx,yC hri hx];rfl
         rw[<-hnx1] at k8;refine aS 17 ?_;refine lg ?_;refine aa ?_;exact ih3 (j+1,v8) ⟨⟨_,k8⟩,e8,by show j+1<=nr;omega⟩
       · rw[List.take_of_length_le (by omega)] at kp;have ko:=ko.ah eg;have kps:=kps.ah eg;have kw:aj g4 g2.size 3 1 vw row.length (row.map (Value.int .i64)):=aT.ah kw eg;have hze:=eg.size;clear ih3 hcp hwp hxl hrg3 q1 q2 q3;obtain⟨na,nn,nc,rfl,_⟩:=id kp.read.open
         have fin:∀(gA g8:af) (DA:Nat->Prop) (vA v8:Value) (psA:List Pl) (to:Int),bS h gA C h.size vn vr next rule->fE h.size gA DA vA psA->aj gA g2.size 3 1 vw row.length (row.map (Value.int .i64))->aj g8 g2.size 3 1 v8 (row.length+1) (row.map (Value.int .i64)++[.int .i64 to])->Ext (bw vw.ownBlock) gA g8->g2.size<=gA.size->st=(psA,to)->(∀a∈psA,ij rs a)->psA[k]? =some cur ->
          ∃D ps row,bS h g8 C h.size vn vr next rule/\fE h.size g8 D vA ps/\aT (Value.int .i64) g8 g2.size 3 v8 row/\(b+1<=256/\row.length=b+1/\ps.length<=60+(b+1)/\ps[k]? =some cur/\g2.size<=g8.size)/\(∀a∈ps,ij rs a)/\gm rs cur (256-(b+1)) (b+1) ps row=tgt:=by
          rintro gA g8 DA vA v8 psA to koA kpsA kwA ho8 hx8 hzA rfl hallA hcurA;refine⟨DA,psA,row++[to],koA.ints kwA hx8 hz2 (fun b hb q=>by have:=(aj.lt kwA hb).1;have:=hCg b q;omega) (fun b hb q=>by have:=(aj.lt kwA hb).1;have:=hrg b q;omega),kpsA.other hx8 (fun b e=>aj.ty kwA e.symm) (by decide) (by decide) (by decide),aT.of (ys:=[to]) ho8 rfl rfl rfl,⟨hb,by simp;omega,by dsimp only at hone;omega,hcurA,by have:=hx8.size;omega⟩,hallA,?_⟩;rw[show 256-(b+1)=m by omega];exact hrow
         refine aa ?_;refine xo rfl (bz rfl (zT kp.read (hbig nx hnok))) ?_;rintro _ g5 ⟨rfl,hg5⟩;refine aa ?_;subst hg5;refine jX (fun hany=>?_) (fun hany=>?_)
         · rw[if_neg (by rw[hany];decide)] at hst;refine aa ?_;refine fG (σ:=Nat×Int) (fun q=>[(15,.int .i64 q.2),(16,.int .i64 (q.1:Nat))]) (fun q h'=>h'=g5/\q.1<=ps.length/\((q.2= -1/\jO q.1 (ps.drop q.1) nx=jO 0 ps nx)\/∃i:Nat,q.2=(i:Int)/\jO 0 ps nx=some i)) (fun q=>ps.length-q.1) ((0,-1)) ⟨rfl,Nat.zero_le _,.inl ⟨rfl,rfl⟩⟩ rfl ?_;rintro⟨x,to⟩ g6 ⟨hg6,hx,hf⟩ ih4
           try dsimp only
           dsimp only at hx hf;subst hg6
           iterate 2 refine bT ?_
           refine jY [(77,.bool (decide (x<ps.length) && decide (to<0)))] rfl ?_ ?_
           · refine aa ?_;refine ie 74 (fun hg1=>?_) (fun hg1=>?_)
             · have hg1':=of_decide_eq_true hg1;refine aa ?_;exact bH rfl ⟨au rfl (by rw[decide_eq_true (show x<ps.length by omega),Bool.true_and]),sb rfl⟩
             · have hg1':=of_decide_eq_false hg1;refine aa ?_;exact bH rfl ⟨au rfl (by rw[decide_eq_false (show ¬x<ps.length by omega),Bool.false_and]),sb rfl⟩
           · refine jX (fun hc=>?_) (fun hc=>?_)
             · rw[Bool.and_eq_true] at hc;have hxl:x<ps.length:=of_decide_eq_true hc.1;have hto:=of_decide_eq_true hc.2
               have hf0:jO x (ps.drop x) nx=jO 0 ps nx:=by
                rcases hf with ⟨_,q⟩|⟨i,q,_⟩
                · exact q
                · omega
               obtain⟨y,hy⟩:∃y,ps[x]? =some y:=⟨_,List.getElem?_eq_getElem hxl⟩
               obtain⟨gy,cy,wy,hvy,_,_,hcy,hwy⟩:=kps.get hy;have hlay:pa=some ⟨gy,0,none⟩:=by cases hvy;rfl
               have hd:ps.drop x=y::ps.drop (x+1):=by
                obtain⟨hi',rfl⟩:=List.getElem?_eq_some_iff.1 hy;exact List.drop_eq_getElem_cons hi'
               rw[hd,jO] at hf0
               iterate 4 refine bT ?_
               refine cU ?_
               iterate 2 refine aY ?_
               refine xp rfl (bK rfl rfl x rfl hlay) ?_;refine xp rfl (aE rfl hcy) ?_;refine aa ?_;refine xo rfl (bz rfl (xq hwy kp.read (hall y (List.mem_of_getElem? hy)) hnok)) ?_;rintro _ g7 ⟨rfl,hg7⟩;refine aa ?_;subst hg7;refine jX (fun hs=>?_) (fun hs=>?_)
               · rw[if_pos (of_decide_eq_true hs)] at hf0;refine aa ?_;exact ih4 (x+1,(x:Int)) ⟨rfl,by show x+1<=ps.length;omega,.inr ⟨x,rfl,hf0.symm⟩⟩
               · rw[if_neg (of_decide_eq_false hs)] at hf0;refine aa ?_;exact ih4 (x+1,to) ⟨rfl,by show x+1<=ps.length;omega,.inl ⟨by show to= -1;rcases hf with ⟨q,_⟩|⟨i,q,_⟩<;>omega,hf0⟩⟩
             · refine aa ?_;refine bF (fun hto=>?_) (fun hto=>?_)
               · have hfn:jO 0 ps nx=none:=by
                  rcases hf with ⟨_,q⟩|⟨i,q,_⟩
                  · rw[decide_eq_true hto,Bool.and_true] at hc;rw[<-q,List.drop_of_length_le (by have:=of_decide_eq_false hc;omega)];rfl
                  · omega
                 rw[hfn] at hst;dsimp only at hst;have kpsM:fE h.size g6 (fun b=>D b\/(D4 b\/(Value.slice na nn nc).ownBlock=some b)) (.slice pa ps.length pc) ps:=kps.more (fun _ q=>.inl q) (fun b q=>q.elim (kps.ty b) (fun q=>q.elim (fun q=>.inl (kp.ty b q)) (fun q=>.inr (kp.Ao b q))));obtain⟨css,hc1,hc2,hc3⟩:=id kpsM.rows;refine aa ?_;refine xo rfl (ji [_]) ?_;rintro _ _ ⟨rfl,rfl⟩;refine xo rfl (oS rfl rfl hc2 rfl rfl) ?_;rintro v9 g9 ⟨ho9,hx9,hx9',hv9⟩;have kps9:=kpsM.push (fun _ q=>.inr q) hc1 hc3 ho9 hx9 hv9 kp;have ko9:=ko.other hc2 hx9 (Nat.le_refl _) (by decide) (by decide) (by decide);have kw9:=aj.ext hx9 kw (fun b hb e=>(kpsM.Ao b e.symm).ne (aj.ty kw hb) (by decide) rfl);have hz9:=hx9.size;refine aa ?_;refine xo rfl (ji [_]) ?_;rintro _ _ ⟨rfl,rfl⟩;refine xo rfl (oS rfl rfl kw9 rfl rfl) ?_;rintro v8 g8 ⟨ho8,hx8,hx8',hv8⟩;refine aa ?_;exact ih2 (b+1,v9,v8) (fin _ _ _ _ _ _ _ ko9 kps9 kw9 ho8 hx8 (by omega) hst.symm (fun a ha=>by rcases List.mem_append.1 ha with q|q;exact hall a q;rw[List.mem_singleton.1 q];exact hnok) (by rw[List.getElem?_append_left hkl2];exact hcur))
               · obtain⟨i,rfl,hfi⟩:∃i:Nat,to=(i:Int)/\jO 0 ps nx=some i:=by
                  rcases hf with ⟨q,_⟩|q
                  · omega
                  · exact q
                 rw[hfi] at hst;dsimp only at hst;refine aa ?_;refine xo rfl (ji [_]) ?_;rintro _ _ ⟨rfl,rfl⟩;refine xo rfl (oS rfl rfl kw rfl rfl) ?_;rintro v8 g8 ⟨ho8,hx8,hx8',hv8⟩;refine aa ?_;exact ih2 (b+1,_,v8) (fin _ _ _ _ _ _ _ ko kps kw ho8 hx8 (by omega) hst.symm hall hcur)
         · rw[if_pos hany] at hst;refine aa ?_;refine xo rfl (ji [_]) ?_;rintro _ _ ⟨rfl,rfl⟩;refine xo rfl (oS rfl rfl kw rfl rfl) ?_;rintro v8 g8 ⟨ho8,hx8,hx8',hv8⟩;refine aa ?_;exact ih2 (b+1,_,v8) (fin _ _ _ _ _ _ _ ko kps kw ho8 hx8 (by omega) hst.symm hall hcur)
     · obtain rfl:b=256:=by omega
       rw[Nat.sub_self,gm] at hrow;subst hrow;dsimp only at hG;have kwe:aj g3 g2.size 3 1 vw row.length (row.map (Value.int .i64)):=kw;obtain⟨wa,wc,rfl,_⟩:=kwe.open;refine aa ?_;refine bF (fun hb60=>?_) (fun hb60=>?_)
       · rw[if_pos (by omega)] at hG;refine aa ?_;refine bU ?_;exact⟨_,rfl,.inl ⟨hG.symm,rfl⟩,ko.ext⟩
       · rw[if_neg (by omega)] at hG;have hkl2:=(List.getElem?_eq_some_iff.1 hcur).1;have koM:=ko.more (C':=fun b=>C b\/(Value.slice wa row.length wc).ownBlock=some b) (fun _ q=>.inl q) (fun b q=>q.elim (ko.cty b) (fun q=>aj.ty kw q)) (fun b hb q=>q.elim (ko.cr b hb) (fun q=>by have:=(aj.lt kw q).1;have:=hrg b hb;omega));obtain⟨css,hc1,hc2,hc3⟩:=id koM.nx
         have hrowv:aP (.int .i64) g3 (fun b=>bw vn.ownBlock b\/¬(C b\/(Value.slice wa row.length wc).ownBlock=some b)) (.slice wa row.length wc) (dO row).v:=by
          rw[js hwl];exact aj.vD (h1:=fun _=>rfl) kwe (fun b hb q=>q.elim (fun q=>(koM.qh b q.symm).ne (aj.ty kwe hb) (by decide) rfl) (fun q=>q (.inr hb)))
         refine aa ?_;refine xp rfl (aE rfl (koM.dblk.cell (i:=0) rfl)) ?_;refine aa ?_;refine xo rfl (ji [_]) ?_;rintro _ _ ⟨rfl,rfl⟩;refine xo rfl (oS rfl rfl hc2 rfl rfl) ?_;rintro v7 g7 ⟨ho7,hx7,hx7',hv7⟩;obtain⟨a7,c7,rfl,_⟩:=ho7.open;have nne:∀{b:Nat}{t:TypeId},aW g3 b t->39≠t->¬bw vn.ownBlock b:=fun kt ht e=>(koM.qh _ e.symm).ne kt ht rfl
         have d7:=koM.dblk.ext hx7 (nne koM.dblk.ty (by decide));refine aa ?_;refine bN rfl (n8 rfl rfl d7) ?_;rintro _ g8 ⟨rfl,k8,x8,z8⟩;have ko8:=koM.zf (r:=dO row) hc1 hc3 ho7 hx7 hv7 hrowv k8 x8;have kps7:=kps.other hx7 (fun b e=>aj.ty hc2 e.symm) (by decide) (by decide) (by decide);have kps8:=kps7.other x8 (fun b e=>by subst e;exact d7.ty) (by decide) (by decide) (by decide);obtain⟨gp,cp,wp,hvp,hgp1,hgp2,hcp,hwp⟩:=kps8.get hcur;have hpa:pa=some ⟨gp,0,none⟩:=by cases hvp;rfl
         have hr8:=hr.mv (Mv.ah ko8.ext)
         have hd1:¬(bw vr.ownBlock h.size\/Array.size g8<=h.size):=fun e=>by
          rcases e with e|e
          · exact(ko8.pY _ e.symm).ne ko8.dblk.ty (by decide) rfl
          · have:=ko8.dblk.lt;omega
         have hd2:¬(bw vr.ownBlock gp\/Array.size g8<=gp):=fun e=>by
          rcases e with e|e
          · exact(ko8.pY _ e.symm).ne (kps8.Ao gp (by rw[hpa];rfl)) (by decide) rfl
          · omega
         have hz8:=ko8.ext.size;have hru:aj g8 h.size 3 1 vr rule.length (rule.map (Value.int .i64)):=ko8.ru;refine aa ?_;refine vg 16 (fun b=>bw vr.ownBlock b\/Array.size g8<=b) (fun i=>Nat.blt i 15) ?_;refine aS 0 ?_;refine aS 1 ?_;refine aS 2 ?_;refine aS 3 ?_;refine bL 4 rfl (fun h' e=>aE rfl (e.cell hd1 (ko8.dblk.cell (i:=1) rfl))) ?_;refine aS 5 ?_;refine aS 6 ?_;refine aS 7 ?_;refine bL 8 rfl (fun h' e=>bK rfl rfl k rfl hpa) ?_;refine bL 9 rfl (fun h' e=>aE rfl (e.cell hd2 hcp)) ?_;refine eZ 10 rfl (bz rfl (xw hr8 hok hwp hcok)) ?_;rintro _ _ ⟨rfl,rfl⟩;refine⟨fun _=>Ext.refl _ _,?_⟩;refine eZ 11 rfl (ji [_]) ?_;rintro _ _ ⟨rfl,rfl⟩;refine⟨fun _=>by first|exact Ext.push _ _ _|assumption,?_⟩;refine eZ 12 rfl (oS rfl rfl hru rfl rfl) ?_;rintro v9 g9 ⟨ho9,hx9,hx9',hv9⟩;refine⟨fun _=>hx9'.mono (fun _ _ k=>.inl k),?_⟩;obtain⟨a9,c9,rfl,_⟩:=ho9.open;have d9:=ko8.dblk.ext hx9 (fun e=>hd1 (.inl e));refine BL 13 ?_;refine aS 14 ?_;refine qp 15 rfl (n8 rfl rfl d9) ?_;rintro _ g10 ⟨rfl,k10,x10,z10⟩;refine⟨nofun,?_⟩;have ko10:=ko8.ze (x:=dJ 0 rs cur) rfl ho9 hx9 hv9 k10 x10;have kps9:=kps8.other hx9 (fun b e=>ko8.pY b e.symm) (by decide) (by decide) (by decide);have kps10:=kps9.other x10 (fun b e=>by subst e;exact d9.ty) (by decide) (by decide) (by decide);refine lg ?_;refine aa ?_;exact ih (k+1,_) ⟨_,D,_,_,ps,next++[dO row],rule++[dJ 0 rs cur],ko10,kps10,⟨by show k+1<=ps.length;omega,by omega,by simp;omega,by simp;omega⟩,hall,by show uW rs 60 (62-(k+1)) (k+1) _ _ _=_;rw[show 62-(k+1)=n by omega];exact hG⟩
   · obtain rfl:k=ps.length:=by omega
     obtain⟨n,hnn⟩:∃n,62-ps.length=n+1:=⟨61-ps.length,by omega⟩
     rw[hnn,uW,List.getElem?_eq_none (Nat.le_refl _)] at hG;dsimp only at hG;refine aa ?_;refine bU ?_;exact⟨_,rfl,.inr ⟨_,_,hG.symm,rfl,ko.DN⟩,ko.ext⟩
theorem xA {O:Nat->Prop}{v:Value}{rs:List dN}(hr:aP Dt h O v rs) (hok:zY rs) (hrl:rs.length<=1000) :
 an Tryd.prog 8 #[v,.int .i64 60] h (b8 fun r h'=>((ym rs 60=none/\r= .tuple #[.pointer none,.bool false])\/∃d mb,ym rs 60=some d/\r= .tuple #[.pointer (some ⟨mb,0,none⟩),.bool true]/\wU h' mb (fP d))/\ak h h'):=by
 refine cV ?_;refine aa ?_;refine xo rfl (bz rfl (zV hr hok hrl)) ?_;rintro _ h1 ⟨hA,e1⟩
 rcases hA with ⟨hn,rfl⟩|⟨d,db,hd,rfl,kd⟩
 · refine aa ?_;refine n6 rfl (by simp) ?_;refine aa ?_;refine bU ?_;exact⟨_,rfl,.inl ⟨hn,rfl⟩,e1⟩
 · obtain⟨Lp,hP,hL,hL0,hL1⟩:=wR hd;have hdk:d.Ok:=hP.ok hL (by omega) (by omega);have hsize:=hdk.size;have hlen:=hdk.len;have hd0:0<d.next.length:=by omega
   refine aa ?_;refine oe rfl (by simp) ?_;refine aa ?_;refine xo rfl (bz rfl (wQ kd hdk)) ?_;rintro w8 h2 ⟨ob,L,M,rfl,kM,hMP⟩;have e2:=kM.mat.ext;refine aa ?_;refine xp rfl (aq (H.CY ) rfl) ?_;refine xo rfl (wY) ?_;rintro _ h3 ⟨rfl,ko3,e3,z3⟩;have ko3:aB h3 h2.size 41 [.slice none 0 0,.slice none 0 0]:=ko3;have ko3:bS h2 h3 (fun _=>False) h2.size (.slice none 0 0) (.slice none 0 0) [] []:=⟨e3,ko3,cN.nil _ _ _ _ _,aT.nil _ _ _ _,fun _ q=>q.elim,fun _ _ q=>q,Nat.le_refl _⟩
   refine aa ?_;refine xo rfl (ji [_]) ?_;rintro _ _ ⟨rfl,rfl⟩;refine aa ?_;have e34:ak h3 (h3.push (.cells #[.int .i64 0] 3)):=Ext.push _ _ _;have ol4:aT b7 (h3.push (.cells #[.int .i64 0] 3)) h2.size 3 (.slice (some ⟨h3.size,0,none⟩) 1 1) [0]:=kW b7 h3 3 [0] 1 rfl (by decide) h2.size e3.size rfl;have ko4:=ko3.ah e34;generalize h3.push (.cells #[.int .i64 0] 3)=h4 at *;generalize hv0:Value.slice (some ⟨h3.size,0,none⟩) 1 1=v0 at ol4;generalize hres0:fP d=res;have hres:=hres0;rw[fP,if_neg (by omega)] at hres;have hof0:lK d.next.length [0]:=⟨by simp,fun x hx=>by simp at hx;omega⟩
   refine fG (σ:=Nat×Value) (fun q=>[(10,q.2),(11,.int .i64 (q.1:Nat))]) (fun q h'=>∃C vn vr of next rule,bS h2 h' C h2.size vn vr next rule/\aT b7 h' h2.size 3 q.2 of/\(∀b,q.2.ownBlock=some b->¬C b/\vr.ownBlock≠some b)/\q.1<=of.length/\lK d.next.length of/\(next.length=q.1/\rule.length=q.1)/\mu d (ax d) (aN d (ax d)) (d.next.length+1-q.1) q.1 of next rule=res) (fun q=>d.next.length+1-q.1) ((0,v0)) ⟨_,_,_,[0],[],[],ko4,ol4,fun b _=>⟨fun q=>q,fun q=>by cases q⟩,Nat.zero_le _,hof0,⟨rfl,rfl⟩,hres⟩ rfl ?_;rintro⟨i,vo⟩ g ⟨C,vn,vr,of,next,rule,ko,ol,hoc,hi,hofk,⟨hnl,hrl2⟩,hcon⟩ ih
   try dsimp only
   dsimp only at ol hoc hi hnl hrl2 hcon;have hofl:=hofk.len;have oln:aj g h2.size 3 1 vo of.length (of.map b7):=ol;obtain⟨oa,oc,rfl,_⟩:=oln.open;refine aa ?_;refine bF (fun hlt=>?_) (fun hlt=>?_)
   · have hil:i<of.length:=by omega
     obtain⟨kk,hcur⟩:∃kk,of[i]? =some kk:=⟨_,List.getElem?_eq_getElem hil⟩
     have hkN:=hofk.lt kk (List.mem_of_getElem? hcur);obtain⟨n,hnn⟩:∃n,d.next.length+1-i=n+1:=⟨d.next.length-i,by omega⟩
     rw[hnn,mu,hcur] at hcon;simp only at hcon;obtain⟨r,hr⟩:∃r,d.next[kk]? =some r:=⟨_,List.getElem?_eq_getElem hkN⟩
     have hrow:d.row kk=r.v:=by unfold aJ.row;rw[hr]
     rw[hrow] at hcon;generalize htgt:bQ (ax d) (aN d (ax d)) r.v of []=tgt at hcon;have hCg:∀b,C b->b<g.size:=fun b hb=>(ko.cty b hb).lt
     have hrg:∀b,vr.ownBlock=some b->b<g.size:=fun b hb=>(ko.pY b hb).lt
     have hz2:=ko.ext.size;generalize hvo:Value.slice oa of.length oc=vo at ol hoc;refine aa ?_;refine fG (σ:=Nat×Value×Value) (fun q=>[(10,q.2.1),(12,q.2.2),(13,.int .i64 (q.1:Nat))]) (fun q h'=>∃of row,bS h2 h' C h2.size vn vr next rule/\aT b7 h' h2.size 3 q.2.1 of/\(∀b,q.2.1.ownBlock=some b->¬C b/\vr.ownBlock≠some b/\q.2.2.ownBlock≠some b)/\aT (Value.int .i64) h' g.size 3 q.2.2 row/\(q.1<=256/\row.length=q.1/\of[i]? =some kk/\g.size<=h'.size)/\lK d.next.length of/\bQ (ax d) (aN d (ax d)) (r.v.drop q.1) of row=tgt) (fun q=>256-q.1) ((0,vo,.slice none 0 0)) ⟨of,[],ko,ol,fun b hb=>⟨(hoc b hb).1,(hoc b hb).2,fun q=>by cases q⟩,aT.nil _ _ _ _,⟨Nat.zero_le _,rfl,hcur,Nat.le_refl _⟩,hofk,htgt⟩ rfl ?_;rintro⟨b,vo,vw⟩ g3 ⟨of,row,ko,ol,hoc,kw,⟨hb256,hwl,hcur,hz3⟩,hofk,hrow⟩ ih2
     try dsimp only
     dsimp only at ol hoc kw hb256 hwl hrow;have hofl:=hofk.len;have oln:aj g3 h2.size 3 1 vo of.length (of.map b7):=ol;have kwn:aj g3 g.size 3 1 vw row.length (row.map (Value.int .i64)):=kw;refine aa ?_;refine bF (fun hlt2=>?_) (fun hlt2=>?_)
     · have hb:b<256:=by omega
       have hub:(UInt8.ofNat b).toNat=b:=by simp;omega
       obtain⟨tx,htx⟩:∃tx,r.v[b]? =some tx:=⟨_,List.getElem?_eq_getElem (by rw[r.len];exact hb)⟩
       have hdrop:r.v.drop b=tx::r.v.drop (b+1):=by rw[List.drop_eq_getElem_cons (by rw[r.len];exact hb),(List.getElem?_eq_some_iff.1 htx).2]
       rw[hdrop,bQ] at hrow;have hto:d.to kk (UInt8.ofNat b)=tx:=by unfold aJ.to;rw[hr];show r.v.getD (UInt8.ofNat b).toNat (-1)=tx;rw[hub,List.getD_eq_getElem?_getD,htx];rfl
       have htl:=mg hdk kk (UInt8.ofNat b);have hix:=Ce hdk hkN (UInt8.ofNat b);rw[hto] at hix;have htm:=hdk.to r (List.mem_of_getElem? hr) tx (List.mem_of_getElem? htx);have hso:=jt (live:=ax d) (cls:=aN d (ax d)) (t:=tx) hofk htm.2;have hsg:=(qU (live:=ax d) (cls:=aN d (ax d)) (of:=of) (t:=tx)).2 i kk hcur;have kdg:=(kd.ah e2).ah ko.ext;have kMg:=kM.ah ko.ext;obtain⟨gg,c4,hv4,_,_,hcell,_,_⟩:=ol.at hcur;have hof0:=(List.getElem?_eq_some_iff.1 hcur).1
       have fin:∀(gA g8:af) (vA v8:Value) (ofA:List Nat) (to:Int),bS h2 gA C h2.size vn vr next rule->aj gA h2.size 3 1 vA ofA.length (ofA.map b7)->(∀b,vA.ownBlock=some b->¬C b/\vr.ownBlock≠some b/\vw.ownBlock≠some b)->aj gA g.size 3 1 vw row.length (row.map (Value.int .i64))->aj g8 g.size 3 1 v8 (row.length+1) (row.map (Value.int .i64)++[.int .i64 to])->Ext (bw vw.ownBlock) gA g8->(∀b,v8.ownBlock=some b->vw.ownBlock=some b\/gA.size<=b)->g.size<=gA.size->aV (ax d) (aN d (ax d)) of tx=(ofA,to) ->
        ∃of row,bS h2 g8 C h2.size vn vr next rule/\aT b7 g8 h2.size 3 vA of/\(∀b,vA.ownBlock=some b->¬C b/\vr.ownBlock≠some b/\v8.ownBlock≠some b)/\aT (Value.int .i64) g8 g.size 3 v8 row/\(b+1<=256/\row.length=b+1/\of[i]? =some kk/\g.size<=g8.size)/\lK d.next.length of/\bQ (ax d) (aN d (ax d)) (r.v.drop (b+1)) of row=tgt:=by
        rintro gA g8 vA v8 ofA to koA olA hocA kwA ho8 hx8 hv8 hzA hst;rw[hst] at hso hsg hrow
        exact⟨ofA,row++[to],koA.ints kwA hx8 hz2 (fun b hb q=>by have:=(aj.lt kwA hb).1;have:=hCg b q;omega) (fun b hb q=>by have:=(aj.lt kwA hb).1;have:=hrg b q;omega),aj.ext hx8 olA (fun b hb e=>(hocA b hb).2.2 e.symm),fun b hb=>⟨(hocA b hb).1,(hocA b hb).2.1,fun q=>by
         rcases hv8 b q with q|q
         · exact(hocA b hb).2.2 q
         · have:=(aj.lt olA hb).2;omega⟩,aT.of (ys:=[to]) ho8 rfl rfl rfl,⟨hb,by simp;omega,hsg,by have:=hx8.size;omega⟩,hso,hrow⟩
       obtain⟨vn0,vr0,hkd,⟨na,nn,nc,rfl,hnl0,hnc,hnm,_⟩,_⟩:=id kdg;generalize ht:oV d kk (UInt8.ofNat b)=t at htl hix;obtain⟨gt,rt,hgt,hrt,hrtl⟩:=kMg.at (show t<d.next.length+1 by omega);have hct:=kMg.mat.get hgt;have hcy:=kMg.mat.cell hgt (show d.next.length<d.next.length+1 by omega);obtain rfl:vo= .slice (some ⟨gg,0,none⟩) of.length c4:=hv4;have hcall:=qs kdg hdk (i:=kk) (b:=b) (by omega) hb;rw[ht] at hcall;subst hnl0
       iterate 4 refine bT ?_
       refine cU ?_
       iterate 3 refine aY ?_
       refine xp rfl (bK rfl rfl i rfl rfl) ?_;refine xp rfl (aE rfl hcell) ?_;refine aa ?_;refine xo rfl (bz rfl hcall) ?_;rintro _ g4 ⟨rfl,hg4⟩;subst hg4;refine aY ?_;refine eW ?_;refine bT ?_;refine cU ?_;refine aY ?_;refine eW ?_
       iterate 2 refine bT ?_
       refine EL ?_
       iterate 2 refine CH ?_
       refine me rfl (bK rfl rfl t rfl rfl) ?_;refine me rfl (aE rfl hct) ?_;refine aa ?_;refine me rfl (aE rfl (hkd.cell (i:=0) rfl)) ?_;refine CH ?_;refine me rfl (bK rfl rfl d.next.length rfl rfl) ?_;refine me rfl (aE rfl hcy) ?_;refine aa ?_;refine jX (fun hlive=>?_) (fun hlive=>?_)
       · refine aa ?_;refine fG (σ:=Nat×Int) (fun q=>[(15,.int .i64 q.2),(16,.int .i64 (q.1:Nat))]) (fun q h'=>h'=g4/\q.1<=of.length/\((q.2= -1/\∀(j y:Nat),j<q.1->of[j]? =some y->jV M y t=true)\/∃i0 x0:Nat,q.2=(i0:Int)/\of[i0]? =some x0/\jV M x0 t=false/\∀(j y:Nat),j<i0->of[j]? =some y->jV M y t=true)) (fun q=>of.length-q.1) ((0,-1)) ⟨rfl,Nat.zero_le _,.inl ⟨rfl,fun j y hj=>by exact absurd hj (Nat.not_lt_zero _)⟩⟩ rfl ?_;rintro⟨x,to⟩ g6 ⟨hg6,hx,hf⟩ ih4
         try dsimp only
         dsimp only at hx hf;subst hg6
         iterate 2 refine bT ?_
         refine jY [(65,.bool (decide (x<of.length) && decide (to<0)))] rfl ?_ ?_
         · refine aa ?_;refine ie 62 (fun hg1=>?_) (fun hg1=>?_)
           · have hg1':=of_decide_eq_true hg1;refine aa ?_;exact bH rfl ⟨au rfl (by rw[decide_eq_true (show x<of.length by omega),Bool.true_and]),sb rfl⟩
           · have hg1':=of_decide_eq_false hg1;refine aa ?_;exact bH rfl ⟨au rfl (by rw[decide_eq_false (show ¬x<of.length by omega),Bool.false_and]),sb rfl⟩
         · refine jX (fun hc=>?_) (fun hc=>?_)
           · rw[Bool.and_eq_true] at hc;have hxl:x<of.length:=of_decide_eq_true hc.1;have hto0:=of_decide_eq_true hc.2
             have hf0:to= -1/\∀(j y:Nat),j<x->of[j]? =some y->jV M y t=true:=by
              rcases hf with q|⟨i0,_,q,_⟩
              · exact q
              · omega
             obtain⟨y,hy⟩:∃y,of[x]? =some y:=⟨_,List.getElem?_eq_getElem hxl⟩
             have hyN:=hofk.lt y (List.mem_of_getElem? hy);obtain⟨gg2,c5,hv5,_,_,hcell5,_,_⟩:=ol.at hy;cases hv5;obtain⟨gy,ry,hgy,hry,hryl⟩:=kMg.at (show y<d.next.length+1 by omega);have hcy2:=kMg.mat.get hgy;have hcz:=kMg.mat.cell hgy (show t<d.next.length+1 by omega)
             iterate 4 refine bT ?_
             refine cU ?_
             iterate 3 refine aY ?_
             refine xp rfl (bK rfl rfl x rfl rfl) ?_;refine xp rfl (aE rfl hcell5) ?_;refine xp rfl (bK rfl rfl y rfl rfl) ?_;refine xp rfl (aE rfl hcy2) ?_;refine aY ?_;refine xp rfl (bK rfl rfl t rfl rfl) ?_;refine xp rfl (aE rfl hcz) ?_;refine aa ?_;refine jX (fun hs=>?_) (fun hs=>?_)
             · refine aa ?_;exact ih4 (x+1,(x:Int)) ⟨rfl,by show x+1<=of.length;omega,.inr ⟨x,y,rfl,hy,by simpa using hs,hf0.2⟩⟩
             · refine aa ?_;exact ih4 (x+1,to) ⟨rfl,by show x+1<=of.length;omega,.inl ⟨hf0.1,fun j z hj hz=>by have hj:j<x+1:=hj;rcases Nat.lt_or_ge j x with q|q;exact hf0.2 j z q hz;have e:j=x:=(by omega);rw[e,hy] at hz;cases hz;simpa using hs⟩⟩
           · refine aa ?_;refine bF (fun hto2=>?_) (fun hto2=>?_)
             · have hall:∀y∈of,jV M y t=true:=fun y hy=>by
                rcases hf with ⟨_,q⟩|⟨i0,_,q,_⟩
                · rw[decide_eq_true hto2,Bool.and_true] at hc;obtain⟨j,hj⟩:=List.getElem?_of_mem hy;exact q j y (by have:=of_decide_eq_false hc;have:=(List.getElem?_eq_some_iff.1 hj).1;omega) hj
                · omega
               have hst:=Az hdk hMP hofk.lt htl hlive hall;rw[hix] at hst;refine aa ?_;refine xo rfl (ji [_]) ?_;rintro _ _ ⟨rfl,rfl⟩;refine xo rfl (oS rfl rfl oln rfl rfl) ?_;rintro v9 g9 ⟨ho9,hx9,hx9',hv9⟩;have ko9:=ko.ints oln hx9 (Nat.le_refl _) (fun b hb=>(hoc b hb).1) (fun b hb=>(hoc b hb).2.1);have kw9:=aj.ext hx9 kwn (fun b hb e=>(hoc b e.symm).2.2 hb);have hz9:=hx9.size;have ol9:aj g9 h2.size 3 1 v9 (of++[t]).length ((of++[t]).map b7):=aT.of (ys:=[t]) ho9 rfl rfl rfl
               have hoc9:∀b,v9.ownBlock=some b->¬C b/\vr.ownBlock≠some b/\vw.ownBlock≠some b:=fun b hb=>by
                rcases hv9 b hb with q|q
                · exact hoc b q
                · exact⟨fun q2=>by have:=(ko.cty b q2).lt;omega,fun q2=>by have:=(ko.pY b q2).lt;omega,fun q2=>by have:=(aj.lt kwn q2).2;omega⟩
               refine aa ?_;refine xo rfl (ji [_]) ?_;rintro _ _ ⟨rfl,rfl⟩;refine xo rfl (oS rfl rfl kw9 rfl rfl) ?_;rintro v8 g8 ⟨ho8,hx8,hx8',hv8⟩;refine aa ?_;exact ih2 (b+1,v9,v8) (fin _ _ _ _ _ _ ko9 ol9 hoc9 kw9 ho8 hx8 hv8 (by omega) hst)
             · obtain⟨i0,x0,rfl,h01,h02,h03⟩:∃i0 x0:Nat,to=(i0:Int)/\of[i0]? =some x0/\jV M x0 t=false/\∀(j y:Nat),j<i0->of[j]? =some y->jV M y t=true:=by
                rcases hf with ⟨q,_⟩|q
                · omega
                · exact q
               have hst:=xg hdk hMP hofk.lt htl hlive h01 h02 h03;rw[hix] at hst;refine aa ?_;refine xo rfl (ji [_]) ?_;rintro _ _ ⟨rfl,rfl⟩;refine xo rfl (oS rfl rfl kwn rfl rfl) ?_;rintro v8 g8 ⟨ho8,hx8,hx8',hv8⟩;refine aa ?_;exact ih2 (b+1,_,v8) (fin _ _ _ _ _ _ ko oln hoc kwn ho8 hx8 hv8 (by omega) hst)
       · have hst:=y6 hdk hMP (of:=of) htl hlive;rw[hix] at hst;refine aa ?_;refine xo rfl (ji [_]) ?_;rintro _ _ ⟨rfl,rfl⟩;refine xo rfl (oS rfl rfl kwn rfl rfl) ?_;rintro v8 g8 ⟨ho8,hx8,hx8',hv8⟩;refine aa ?_;exact ih2 (b+1,_,v8) (fin _ _ _ _ _ _ ko oln hoc kwn ho8 hx8 hv8 (by omega) hst)
     · obtain rfl:b=256:=by omega
       rw[List.drop_of_length_le (by rw[r.len];exact Nat.le_refl _),bQ] at hrow;subst hrow;simp only at hcon;obtain⟨wa,wc,rfl,_⟩:=kwn.open;have koM:=ko.more (C':=fun b=>C b\/(Value.slice wa row.length wc).ownBlock=some b) (fun _ q=>.inl q) (fun b q=>q.elim (ko.cty b) (fun q=>aj.ty kwn q)) (fun b hb q=>q.elim (ko.cr b hb) (fun q=>by have:=(aj.lt kwn q).1;have:=hrg b hb;omega));obtain⟨css,hc1,hc2,hc3⟩:=id koM.nx
       have hrowv:aP (.int .i64) g3 (fun b=>bw vn.ownBlock b\/¬(C b\/(Value.slice wa row.length wc).ownBlock=some b)) (.slice wa row.length wc) (dO row).v:=by
        rw[js hwl];exact aj.vD (h1:=fun _=>rfl) kwn (fun b hb q=>q.elim (fun q=>(koM.qh b q.symm).ne (aj.ty kwn hb) (by decide) rfl) (fun q=>q (.inr hb)))
       have hofi:=(List.getElem?_eq_some_iff.1 hcur).1;refine aa ?_;refine xp rfl (aE rfl (koM.dblk.cell (i:=0) rfl)) ?_;refine aa ?_;refine xo rfl (ji [_]) ?_;rintro _ _ ⟨rfl,rfl⟩;refine xo rfl (oS rfl rfl hc2 rfl rfl) ?_;rintro v7 g7 ⟨ho7,hx7,hx7',hv7⟩;obtain⟨a7,c7,rfl,_⟩:=ho7.open;have nne:∀{b:Nat}{t:TypeId},aW g3 b t->39≠t->¬bw vn.ownBlock b:=fun kt ht e=>(koM.qh _ e.symm).ne kt ht rfl
       have d7:=koM.dblk.ext hx7 (nne koM.dblk.ty (by decide));refine aa ?_;refine bN rfl (n8 rfl rfl d7) ?_;rintro _ g8 ⟨rfl,k8,x8,z8⟩;have ko8:=koM.zf (r:=dO row) hc1 hc3 ho7 hx7 hv7 hrowv k8 x8;have ol7:=aj.ext hx7 oln (fun b hb=>nne (aj.ty oln hb) (by decide));have ol8:aT b7 g8 h2.size 3 vo of:=aj.ext x8 ol7 (fun b hb e=>by subst e;exact(show aW g7 _ 3 from aj.ty ol7 hb).ne d7.ty (by decide) rfl);obtain⟨gg,c4,hv4,_,hgg,hcell,_,_⟩:=ol8.at hcur;obtain rfl:vo= .slice (some ⟨gg,0,none⟩) of.length c4:=hv4;obtain⟨vn0,vr0,hkd,_,⟨ra,rn,rc,rfl,hrl0,hrc,hrm,hgetr⟩⟩:=(kd.ah e2)
       obtain⟨x,hx⟩:∃x,d.rule[kk]? =some x:=⟨_,List.getElem?_eq_getElem (by omega)⟩
       have hru0:d.ru kk=x:=by unfold aJ.ru;rw[List.getD_eq_getElem?_getD,hx];rfl
       obtain⟨b5,o5,cs5,ha5,hO5,hrow5,rfl⟩:=hgetr kk x hx
       have hd1:¬(bw vr.ownBlock h2.size\/Array.size g8<=h2.size):=fun e=>by
        rcases e with e|e
        · exact(ko8.pY _ e.symm).ne ko8.dblk.ty (by decide) rfl
        · have:=ko8.dblk.lt;omega
       have hg8s:=ko8.ext.size
       have hlow:∀{b:Nat},b<h2.size->¬(bw vr.ownBlock b\/Array.size g8<=b):=fun kb e=>by
        rcases e with e|e
        · have:=(aj.lt ko8.ru e.symm).1;omega
        · omega
       have hc4:=hkd.cell (i:=1) rfl;have hc5:=hrow5 0 _ rfl
       have hd6:¬(bw vr.ownBlock gg\/Array.size g8<=gg):=fun e=>by
        rcases e with e|e
        · exact(hoc gg rfl).2.1 e.symm
        · omega
       have hru:aj g8 h2.size 3 1 vr rule.length (rule.map (Value.int .i64)):=ko8.ru;refine aa ?_;refine vg 20 (fun b=>bw vr.ownBlock b\/Array.size g8<=b) (fun i=>Nat.blt i 19) ?_;refine aS 0 ?_;refine aS 1 ?_;refine aS 2 ?_;refine aS 3 ?_;refine bL 4 rfl (fun h' e=>aE rfl (e.cell hd1 (ko8.dblk.cell (i:=1) rfl))) ?_;refine aS 5 ?_;refine aS 6 ?_;refine aS 7 ?_;refine bL 8 rfl (fun h' e=>aE rfl (e.cell (hlow (bI hc4)) (ko8.ext.cell (fun k=>k) hc4))) ?_;refine aS 9 ?_;refine aS 10 ?_;refine bL 11 rfl (fun h' e=>bK rfl rfl i rfl rfl) ?_;refine bL 12 rfl (fun h' e=>aE rfl (e.cell hd6 hcell)) ?_;refine bL 13 rfl (fun h' e=>bK rfl rfl kk rfl ha5) ?_;refine bL 14 rfl (fun h' e=>aE rfl (e.cell (hlow (bI hc5)) (ko8.ext.cell (fun k=>k) hc5))) ?_;refine eZ 15 rfl (ji [_]) ?_;rintro _ _ ⟨rfl,rfl⟩;refine⟨fun _=>by first|exact Ext.push _ _ _|assumption,?_⟩;refine eZ 16 rfl (oS rfl rfl hru rfl rfl) ?_;rintro v9 g9 ⟨ho9,hx9,hx9',hv9⟩;refine⟨fun _=>hx9'.mono (fun _ _ k=>.inl k),?_⟩;obtain⟨a9,c9,rfl,_⟩:=ho9.open;have d9:=ko8.dblk.ext hx9 (fun e=>hd1 (.inl e));refine BL 17 ?_;refine aS 18 ?_;refine qp 19 rfl (n8 rfl rfl d9) ?_;rintro _ g10 ⟨rfl,k10,x10,z10⟩;refine⟨nofun,?_⟩;have ko10:=ko8.ze (x:=x) rfl ho9 hx9 hv9 k10 x10;have ol9:=aj.ext hx9 (show aj g8 h2.size 3 1 _ of.length (of.map b7) from ol8) (fun b hb e=>(hoc b hb).2.1 e.symm);have ol10:aT b7 g10 h2.size 3 (.slice (some ⟨gg,0,none⟩) of.length c4) of:=aj.ext x10 ol9 (fun b hb e=>by subst e;exact(show aW g9 _ 3 from aj.ty ol9 hb).ne d9.ty (by decide) rfl)
       have hoc10:∀b,(Value.slice (some ⟨gg,0,none⟩) of.length c4).ownBlock=some b->¬(C b\/(Value.slice wa row.length wc).ownBlock=some b)/\(Value.slice a9 (rule.length+1) c9).ownBlock≠some b:=fun b hb=>⟨fun q=>q.elim (hoc b hb).1 (hoc b hb).2.2,fun q=>by
        rcases hv9 b q with q|q
        · exact(hoc b hb).2.1 q
        · have:b=gg:=by cases hb;rfl
          omega⟩
       refine lg ?_;refine aa ?_;exact ih (i+1,_) ⟨_,_,_,of,next++[dO row],rule++[x],ko10,ol10,hoc10,hofi,hofk,⟨by simp;omega,by simp;omega⟩,by rw[<-hru0,show d.next.length+1-(i+1)=n by omega];exact hcon⟩
   · obtain rfl:i=of.length:=by omega
     obtain⟨n,hnn⟩:∃n,d.next.length+1-of.length=n+1:=⟨d.next.length-of.length,by omega⟩
     rw[hnn,mu,List.getElem?_eq_none (Nat.le_refl _)] at hcon;simp only at hcon;refine aa ?_;refine bU ?_;exact⟨_,rfl,.inr ⟨_,_,hd,rfl,by rw[hres0,<-hcon];exact ko.DN⟩,(e1.trans e2).trans ko.ext⟩
theorem uO {p:Value}{d:aJ}{s:By}{a:Int}(k:gW h p d) (hok:d.Ok) (hs:s.length<=1000000) :
 an Tryd.prog 24 #[p,.string (bs s),.int .i64 a] h (b8 fun r h'=>r= .tuple #[.int .i64 (eR d s a).1,.int .i64 (eR d s a).2.1,.int .i64 (eR d s a).2.2]/\h'=h):=by
 have hbs:=dF s;refine cV ?_;refine bT ?_;refine cU ?_
 iterate 3 refine aY ?_
 refine eW ?_;refine bT ?_;refine cU ?_;refine aY ?_;refine eW ?_
 iterate 2 refine bT ?_
 refine jY [(22,.bool (decide (d.next.length=0\/a<0\/(s.length:Int)<a)))] rfl ?_ ?_
 · refine aa ?_;refine xo rfl (bz rfl (fR k)) ?_;rintro _ h0 ⟨rfl,hh0⟩;subst hh0;refine aa ?_;refine ie 13 (fun hg=>?_) (fun hg=>?_)
   · have hg':=of_decide_eq_true hg;refine aa ?_;exact bH rfl ⟨au rfl (by simp[hg']),sb rfl⟩
   · have hg':=of_decide_eq_false hg;refine aa ?_;refine ie 17 (fun hg2=>?_) (fun hg2=>?_)
     · have hg2':=of_decide_eq_true hg2;refine aa ?_;exact bH rfl ⟨au rfl (by simp[hg2']),sb rfl⟩
     · have hg2':=of_decide_eq_false hg2;refine aa ?_;exact bH rfl ⟨au rfl (by simp only[decide_eq_decide];omega),sb rfl⟩
 · refine bF (fun hz=>?_) (fun hz=>?_)
   · refine aa ?_;refine bU ?_;rw[eR,if_pos hz];exact⟨_,rfl,rfl,rfl⟩
   · obtain⟨k0,rfl⟩:=Int.eq_ofNat_of_zero_le (show 0<=a by omega);have hk0:k0<=s.length:=by omega
     have hma:eR d s (k0:Nat)=gD d (s.drop k0) 0 0 (0,-1):=by rw[eR,if_neg hz];rfl
     rw[hma];generalize htgt:gD d (s.drop k0) 0 0 (0,-1)=tgt
     rcases k with ⟨_,rfl⟩|⟨db,rfl,vn,vr,hk,⟨na,nn,nc,rfl,hnl,_,_,hgetn⟩,⟨ra,rn,rc,rfl,hrl,_,_,hgetr⟩⟩
     exact absurd (.inl rfl) hz;have hlen:=hok.len;have hsize:=hok.size;refine aa ?_;refine C3 (σ:=Int×Nat×Int×Int) (fun q=>[(0,.pointer (some ⟨db,0,none⟩)),(1,.string (bs s)),(2,.int .i64 (k0:Nat)),(6,.int .i64 q.2.2.1),(7,.int .i64 q.2.2.2),(8,.int .i64 (q.2.1:Nat)),(9,.int .i64 q.1)]) (fun q h'=>h'=h/\k0+q.2.1<=s.length/\(0<=q.1->q.1<d.next.length/\gD d (s.drop (k0+q.2.1)) q.1.toNat q.2.1 q.2.2=tgt)/\(q.1<0->(q.2.2.1,q.2.2.2,(q.2.1:Int))=tgt)) (fun q=>2*(s.length-(k0+q.2.1))+(if 0<=q.1 then 1 else 0)) ((0,0,0,-1)) ⟨rfl,by simpa using hk0,fun _=>⟨by show (0:Int)<_;omega,by simpa using htgt⟩,fun k=>absurd k (by decide)⟩ ?_;rintro⟨st,i,b1,b2⟩ g ⟨rfl,hki,hpos,hneg⟩ ih
     try dsimp only
     dsimp only at hki hpos hneg;refine aa ?_;refine bF (fun hst=>?_) (fun hst=>?_)
     · obtain⟨hlt,hcon⟩:=hpos hst;obtain⟨j,rfl⟩:=Int.eq_ofNat_of_zero_le hst;have hcon:gD d (s.drop (k0+i)) j i (b1,b2)=tgt:=hcon;obtain⟨x,hx⟩:∃x,d.rule[j]? =some x:=⟨_,List.getElem?_eq_getElem (by omega)⟩
       have hru:d.ru j=x:=by unfold aJ.ru;rw[List.getD_eq_getElem?_getD,hx];rfl
       obtain⟨b,o,cs,ha,_,hrow,rfl⟩:=hgetr j x hx;refine aa ?_;refine xp rfl (aE rfl (hk.cell (i:=1) rfl)) ?_;refine aY ?_;refine xp rfl (bK rfl rfl j rfl ha) ?_;refine xp rfl (aE rfl (hrow 0 _ rfl)) ?_;refine aa ?_
       have fin:∀(c1 c2:Int) (h':af) (ρ':Env),Sub [(0,.pointer (some ⟨db,0,none⟩)),(1,.string (bs s)),(2,.int .i64 (k0:Nat)),(6,.int .i64 c1),(7,.int .i64 c2),(8,.int .i64 (i:Nat)),(9,.int .i64 (j:Nat))] ρ'->h'=g->(c1,c2)=(if 0<=d.ru j then ((i:Int),d.ru j) else (b1,b2))->G Tryd.prog 24 f24 [.code [1,0,1,0,0,1,0,1,1,1],.blk 1,.loop [0,0,1,0,1,1,1],.blk 0,.code [1,1,1,1]] ρ' h' (b8 fun r h'=>r= .tuple #[.int .i64 tgt.1,.int .i64 tgt.2.1,.int .i64 tgt.2.2]/\h'=g):=by
        rintro c1 c2 g1 ρ' hsub rfl hc;refine G.sub (ρ':=[(0,.pointer (some ⟨db,0,none⟩)),(1,.string (bs s)),(2,.int .i64 (k0:Nat)),(6,.int .i64 c1),(7,.int .i64 c2),(8,.int .i64 (i:Nat)),(9,.int .i64 (j:Nat))]) hsub ?_;refine aa ?_;refine bF (fun hend=>?_) (fun hend=>?_)
        · have hd:s.drop (k0+i)=[]:=List.drop_of_length_le (by omega);rw[hd,gD] at hcon
          have hcon:(c1,c2,(i:Int))=tgt:=by
           rw[<-hcon]
           by_cases h0:0<=d.ru j
           · rw[if_pos h0] at hc ⊢;cases hc;rfl
           · rw[if_neg h0] at hc ⊢;cases hc;rfl
          refine aa ?_;refine bU ?_;exact⟨_,rfl,by rw[<-hcon];rfl,rfl⟩
        · have hki2:k0+i<s.length:=by omega
          have hd:s.drop (k0+i)=s[k0+i]::s.drop (k0+i+1):=List.drop_eq_getElem_cons hki2;rw[hd,gD,<-hc] at hcon;obtain⟨r,hr⟩:∃r,d.next[j]? =some r:=⟨_,List.getElem?_eq_getElem (by omega)⟩
          obtain⟨b3,o3,cs3,ha3,_,hrow3,rfl⟩:=hgetn j r hr;obtain⟨y,hy,he,_⟩:=r.at s[k0+i];have hc8:=s[k0+i].toNat_lt;have hto:d.to j s[k0+i]=y:=by unfold aJ.to;rw[hr];exact he
          have hb:=aJ.jL hok (s:=j) s[k0+i];rw[hto] at hcon hb;have hcell:cellAt g1 ⟨b3,o3+j*256+s[k0+i].toNat*1,none⟩=some (.int .i64 y):=by rw[Nat.mul_one];exact hrow3 _ _ (by simp[bu,hy])
          refine aa ?_;refine me rfl (aE rfl (hk.cell (i:=0) rfl)) ?_;refine aa ?_;refine me rfl (Al rfl rfl (k0+i) (by omega) (jS (List.getElem?_eq_getElem hki2))) ?_;refine me rfl (bK rfl rfl j rfl ha3) ?_;refine me rfl (wZ rfl rfl s[k0+i].toNat rfl (by omega)) ?_;refine me rfl (aE rfl hcell) ?_;refine aa ?_;refine bF (fun hy0=>?_) (fun hy0=>?_)
          · rw[if_pos hy0] at hcon;obtain⟨j2,rfl⟩:=Int.eq_ofNat_of_zero_le hy0;refine aa ?_;exact ih ((j2:Int),i+1,c1,c2) ⟨rfl,by show k0+(i+1)<=s.length;omega,fun _=>⟨hb.2,by show gD d (s.drop (k0+(i+1))) _ _ _=tgt;rw[show k0+(i+1)=k0+i+1 by omega];exact hcon⟩,fun k=>absurd k (by show ¬(j2:Int)<0;omega)⟩ (by show 2*(s.length-(k0+(i+1)))+(if (0:Int)<=(j2:Nat) then 1 else 0)<2*(s.length-(k0+i))+(if (0:Int)<=(j:Nat) then 1 else 0);rw[if_pos (by omega),if_pos (by omega)];omega)
          · rw[if_neg hy0] at hcon;refine aa ?_;exact ih (y,i,c1,c2) ⟨rfl,hki,fun k=>absurd k hy0,fun _=>by show (c1,c2,(i:Int))=tgt;rw[<-hcon];by_cases h0:0<=d.ru j;(rw[if_pos h0] at hc ⊢;cases hc;rfl);(rw[if_neg h0] at hc ⊢;cases hc;rfl)⟩ (by show 2*(s.length-(k0+i))+(if (0:Int)<=y then 1 else 0)<2*(s.length-(k0+i))+(if (0:Int)<=(j:Nat) then 1 else 0);rw[if_neg hy0,if_pos (by omega)];omega)
       refine bF (fun hr=>?_) (fun hr=>?_)
       · refine cU ?_
         iterate 4 refine aY ?_
         refine eW ?_;exact fin _ _ _ _ (by exact sb rfl) rfl (by rw[hru,if_pos hr])
       · refine bT ?_;exact fin _ _ _ _ (by exact sb rfl) rfl (by rw[hru,if_neg hr])
     · have hcon:=hneg (by omega);refine aa ?_;refine bU ?_;exact⟨_,rfl,by rw[<-hcon];rfl,rfl⟩
end
end Go.Proofs.YtbbjkiigpdjaaaaDoor
namespace Go.Proofs.YtbbjkiigpdjaaaaDoor
open Go Go.Lw
set_option maxRecDepth 20000
def EI (h:af) (O:Nat->Prop) (cs:List Value) (x:List Nat):Prop:=∃v,cs=[v]/\aP fX h O v x
def xW:gI (List Nat):=⟨1,by decide,EI,fun h=>by obtain⟨v,rfl,_⟩:=h;rfl,fun h=>by
    obtain⟨v,rfl,hv⟩:=h;intro u hu;simp at hu;subst hu;exact aP.wz hv,fun h m=>by
    obtain⟨v,hc,hv⟩:=h;exact⟨v,hc,hv.mv m⟩⟩
def j6:Nat->List (List Nat)->List (ByteArray×Int)
  |_,[]=>[]
  |i,x::r=>(bs (uL x),(i:Int))::j6 (i+1) r
theorem tq:∀(ls:List (List Nat)) (i:Nat) (l:List Nat),j6 i (ls++[l])=j6 i ls++[(bs (uL l),((i+ls.length:Nat):Int))]
  | [],i,l=>by simp[j6]
  |x::r,i,l=>by
    simp only[List.cons_append,j6];rw[tq r (i+1) l,List.length_cons,show i+1+r.length=i+(r.length+1) by omega]
theorem sr:∀(ls:List (List Nat)) (i:Nat) (l:List Nat),jh (bs (uL l)) (j6 i ls)=(lX i ls l).map fun j=>(j:Int)
  | [],i,l=>rfl
  |x::r,i,l=>by
    rw[j6,jh,lX]
    by_cases h:l=x
    · subst h;rw[if_pos rfl,if_pos rfl];rfl
    · have hk:¬bs (uL l)=bs (uL x):=fun e=>h (A9 (mQ e))
      rw[if_neg hk,if_neg h];exact sr r (i+1) l
theorem aP.ints {h:af}{O:Nat->Prop}{v:Value}{l:List Nat}(k:aP fX h O v l):aP (.int .i64) h O v (l.map Int.ofNat):=by
  obtain⟨oa,n,c,rfl,hl,hnc,hc,hg⟩:=k;refine⟨oa,n,c,rfl,by simpa using hl,hnc,hc,fun i x hx=>?_⟩;rw[List.getElem?_map] at hx;cases hs:l[i]? with
  |none=>rw[hs] at hx;cases hx
  |some s =>
    rw[hs] at hx;simp only[Option.map_some,Option.some.injEq] at hx;subst hx;obtain⟨b,o,cs,h1,h2,h3,h4⟩:=hg i s hs;exact⟨b,o,cs,h1,h2,h3,h4⟩
structure fZ (h0 h:af) (C:Nat->Prop) (db mb:Nat) (vl vn vr:Value) (lists:List (List Nat)) (next:List Row) (rule:List Int):Prop where
  ext:ak h0 h
  dblk:aB h db 66 [vn,vr]
  nx:nW 256 bu h h0.size 68 vn next
  ru:aT (Value.int .i64) h h0.size 3 vr rule
  mp:dG Value.string (Value.int .i64) h mb (j6 0 lists)
  ls:cN xW (fun b=>¬C b) h h0.size 39 vl lists
  cty:∀b,C b->aW h b 3
  cr:∀b,vr.ownBlock=some b->¬C b
  dge:h0.size<=db
  mge:h0.size<=mb
section
variable {h0 h:af}{C:Nat->Prop}{db mb:Nat}{vl vn vr:Value}{lists:List (List Nat)}{next:List Row}{rule:List Int}
theorem fZ.AZ (k:fZ h0 h C db mb vl vn vr lists next rule):∀b,vl.ownBlock=some b->aW h b 39:=fun b hb=>by
  obtain⟨css,_,h2,_⟩:=k.ls;exact h2.ty hb
theorem fZ.qh (k:fZ h0 h C db mb vl vn vr lists next rule):∀b,vn.ownBlock=some b->aW h b 68:=fun _ hb=>aj.ty k.nx hb
theorem fZ.pY (k:fZ h0 h C db mb vl vn vr lists next rule):∀b,vr.ownBlock=some b->aW h b 3:=fun _ hb=>aj.ty k.ru hb
theorem fZ.Gj (k:fZ h0 h C db mb vl vn vr lists next rule):∀b,vl.ownBlock=some b->h0.size<=b:=fun b hb=>by
  obtain⟨css,_,h2,_⟩:=k.ls;exact(h2.lt hb).1
theorem fZ.ah {h':af}(k:fZ h0 h C db mb vl vn vr lists next rule) (e:ak h h'):fZ h0 h' C db mb vl vn vr lists next rule :=
  ⟨k.ext.trans e,k.dblk.ah e,nW.ah k.nx e,aT.ah k.ru e,k.mp.ext e (fun k=>k),k.ls.ah e,fun b hb=>(k.cty b hb).ext e (fun k=>k),k.cr,k.dge,k.mge⟩
theorem fZ.put {h':af}{x:Nat}(k:fZ h0 h C db mb vl vn vr lists next rule) (e:Ext (fun b=>b=x) h h') (hx:aW h x 68) (hn:vn.ownBlock≠some x) (hge:h0.size<=x):fZ h0 h' C db mb vl vn vr lists next rule:=by
  have hd:¬db=x:=k.dblk.ty.ne hx (by decide);have hm:¬mb=x:=k.mp.ne hx;have hl:∀b,vl.ownBlock=some b->¬b=x:=fun b hb=>(k.AZ b hb).ne hx (by decide)
  have hr:∀b,vr.ownBlock=some b->¬b=x:=fun b hb=>(k.pY b hb).ne hx (by decide)
  have hc:∀b,C b->¬b=x:=fun b hb=>(k.cty b hb).ne hx (by decide)
  exact⟨ak.only k.ext e hge,k.dblk.ext e hd,aj.ext e k.nx (fun b hb hbx=>hn (by subst hbx;exact hb)),aj.ext e k.ru hr,k.mp.ext e hm,
    k.ls.o9 e hl (fun b _ hb hC=>hc b hC hb) (fun _ _ k=>k),fun b hb=>(k.cty b hb).ext e (hc b hb),k.cr,k.dge,k.mge⟩
end
section
variable {h0 h:af}{C:Nat->Prop}{db mb:Nat}{vl vn vr:Value}{lists:List (List Nat)}{next:List Row}{rule:List Int}
theorem fZ.zf {g3 g4:af}{v3:Value}{r:Row}{n:Nat}(k:fZ h0 h C db mb vl vn vr lists next rule) (hn:n=next.length) (ho:aj g3 h0.size 68 256 v3 (n+1) (next.flatMap bu++bu r)) (hx:Ext (bw vn.ownBlock) h g3) (hd:aB g4 db 66 [v3,vr]) (x4:Ext (fun b=>b=db) g3 g4) :
    fZ h0 g4 C db mb vl v3 vr lists (next++[r]) rule:=by
  have nne:∀{b:Nat}{t:TypeId},aW h b t->68≠t->¬bw vn.ownBlock b:=fun kt ht e=>(k.qh _ e.symm).ne kt ht rfl
  have d3:=k.dblk.ext hx (nne k.dblk.ty (by decide));have l7:∀{b:Nat}{t:TypeId},aW g3 b t->66≠t->¬b=db:=fun kt ht e=>by subst e;exact d3.ty.ne kt ht rfl
  have mne:¬bw vn.ownBlock mb:=fun e=>k.mp.ne (k.qh _ e.symm) rfl
  have hm3:=k.mp.ext hx mne;have hdlt:=k.dblk.lt;have ru3:=aj.ext hx k.ru (fun b hb=>nne (k.pY b hb) (by decide));have ls3:cN xW (fun b=>¬C b) g3 h0.size 39 vl lists:=k.ls.o9 hx (fun b hb=>nne (k.AZ b hb) (by decide)) (fun b _ hb hC=>nne (k.cty b hC) (by decide) hb) (fun _ _ k=>k);have lty3:∀b,vl.ownBlock=some b->aW g3 b 39:=fun b hb=>(k.AZ b hb).ext hx (nne (k.AZ b hb) (by decide))
  have cty3:∀b,C b->aW g3 b 3:=fun b hb=>(k.cty b hb).ext hx (nne (k.cty b hb) (by decide))
  refine⟨⟨by have:=k.ext.size;have:=hx.size;have:=x4.size;omega,fun b hb kk=>?_⟩,hd,?_,aj.ext x4 ru3 (fun b hb=>l7 (aj.ty ru3 hb) (by decide)),hm3.ext x4 (hm3.ne d3.ty),ls3.o9 x4 (fun b hb=>l7 (lty3 b hb) (by decide)) (fun b _ hb hC=>l7 (cty3 b hC) (by decide) hb) (fun _ _ k=>k),fun b hb=>(cty3 b hb).ext x4 (l7 (cty3 b hb) (by decide)),k.cr,k.dge,k.mge⟩
  · rw[x4.block b (by have:=k.ext.size;have:=hx.size;omega) (by have:=k.dge;omega),hx.block b (by have:=k.ext.size;omega) (fun e=>by have:=(aj.lt k.nx e.symm).1;omega)];exact k.ext.block b hb kk
  · exact aj.ext x4 (nW.of ho hn rfl) (fun b hb=>l7 (aj.ty ho hb) (by decide))
theorem fZ.ze {g3 g4:af}{v3:Value}{x:Int}{n:Nat}(k:fZ h0 h C db mb vl vn vr lists next rule) (hn:n=rule.length) (ho:aj g3 h0.size 3 1 v3 (n+1) (rule.map (Value.int .i64)++[.int .i64 x])) (hx:Ext (bw vr.ownBlock) h g3) (hv:∀b,v3.ownBlock=some b->vr.ownBlock=some b\/h.size<=b) (hd:aB g4 db 66 [vn,v3]) (x4:Ext (fun b=>b=db) g3 g4) :
    fZ h0 g4 C db mb vl vn v3 lists next (rule++[x]):=by
  have nne:∀{b:Nat}{t:TypeId},aW h b t->3≠t->¬bw vr.ownBlock b:=fun kt ht e=>(k.pY _ e.symm).ne kt ht rfl
  have cne:∀{b:Nat},C b->¬bw vr.ownBlock b:=fun hC e=>k.cr _ e.symm hC
  have d3:=k.dblk.ext hx (nne k.dblk.ty (by decide));have l7:∀{b:Nat}{t:TypeId},aW g3 b t->66≠t->¬b=db:=fun kt ht e=>by subst e;exact d3.ty.ne kt ht rfl
  have mne:¬bw vr.ownBlock mb:=fun e=>k.mp.ne (k.pY _ e.symm) rfl
  have hm3:=k.mp.ext hx mne;have nx3:=aj.ext hx k.nx (fun b hb=>nne (k.qh b hb) (by decide));have ls3:cN xW (fun b=>¬C b) g3 h0.size 39 vl lists:=k.ls.o9 hx (fun b hb=>nne (k.AZ b hb) (by decide)) (fun b _ hb hC=>cne hC hb) (fun _ _ k=>k);have lty3:∀b,vl.ownBlock=some b->aW g3 b 39:=fun b hb=>(k.AZ b hb).ext hx (nne (k.AZ b hb) (by decide))
  have cty3:∀b,C b->aW g3 b 3:=fun b hb=>(k.cty b hb).ext hx (cne hb)
  refine⟨⟨by have:=k.ext.size;have:=hx.size;have:=x4.size;omega,fun b hb kk=>?_⟩,hd,aj.ext x4 nx3 (fun b hb=>l7 (aj.ty nx3 hb) (by decide)),?_,hm3.ext x4 (hm3.ne d3.ty),ls3.o9 x4 (fun b hb=>l7 (lty3 b hb) (by decide)) (fun b _ hb hC=>l7 (cty3 b hC) (by decide) hb) (fun _ _ k=>k),fun b hb=>(cty3 b hb).ext x4 (l7 (cty3 b hb) (by decide)),fun b hb hC=>?_,k.dge,k.mge⟩
  · rw[x4.block b (by have:=k.ext.size;have:=hx.size;omega) (by have:=k.dge;omega),hx.block b (by have:=k.ext.size;omega) (fun e=>by have:=(aj.lt k.ru e.symm).1;omega)];exact k.ext.block b hb kk
  · exact aj.ext x4 (aT.of (ys:=[x]) ho hn rfl rfl) (fun b hb=>l7 (aj.ty ho hb) (by decide))
  · rcases hv b hb with e|e
    · exact k.cr b e hC
    · have:=(k.cty b hC).lt;omega
end
def u6 (res:Int ⊕ aJ) (h':af) (r:Value):Prop:=match res with
  |.inl e=>r= .tuple #[.pointer none,.int .i64 e]
  |.inr d=>∃db,r= .tuple #[.pointer (some ⟨db,0,none⟩),.int .i64 0]/\ja h' db d
end Go.Proofs.YtbbjkiigpdjaaaaDoor
namespace Go.Proofs.YtbbjkiigpdjaaaaDoor
open Go.Proofs.Tryd
open Go Go.Lw
set_option maxRecDepth 20000 set_option maxHeartbeats 4000000
section
variable {h:af}{d:aJ}{live:List Bool}{cls:List Int}
theorem wI {O:Nat->Prop}{nb:Nat}{v:Value}{ss:List aH}{st:Nat}(htens:lI h) (hn:bE h O nb v ss st) (hgood:Good ss) (hss:ss.length<=30000) (hst:st<ss.length) (hpot1:1+o8 ss (List.replicate ss.length false)<=1000000)
 (hpot:∀c now,List.Sublist now (List.range ss.length)->(stepG ss c now []).length+o8 ss (List.replicate ss.length false)<=1000000) :
 an Tryd.prog 17 #[.pointer (some ⟨nb,0,none⟩)] h (b8 fun r h'=>u6 (eS ss st) h' r/\ak h h'):=by
 generalize hres:eS ss st=res
 have hint:∀l:List Nat,l.Sublist (List.range ss.length)->(l.map Int.ofNat).length<=1000000/\∀n∈l.map Int.ofNat,-9223372036854775808<=n/\n<=9223372036854775807:=fun l hl=>by
  have h1:=hl.length_le;rw[List.length_range] at h1;refine⟨by rw[List.length_map];omega,fun n hn=>?_⟩;obtain⟨j,hj,rfl⟩:=List.mem_map.1 hn;have:=List.mem_range.1 (hl.subset hj);simp only[Int.ofNat_eq_natCast];omega
 refine cV ?_;refine aa ?_;refine xo rfl (bz rfl (vv hn hgood (by omega) (.inr hst) hpot1)) ?_;rintro w4 h1 ⟨ho1,e1⟩;have hsub0:=qy ss st;generalize hl0:b9 ss st=l0 at *;have hi0:=hint l0 hsub0;obtain⟨wa,wc,rfl,_⟩:=(show aj h1 h.size 3 1 w4 l0.length (l0.map b7) from ho1).open;refine aa ?_;refine bF (fun hz=>?_) (fun hz=>?_)
 · refine aa ?_;refine bU ?_;have:res= .inl 1:=by rw[<-hres,eS,hl0,if_pos (by omega)]
   subst this;exact⟨_,rfl,rfl,e1⟩
 · have hres':res=match iG ss 2002 0 [l0] [] [] with|none=>.inl 70|some d=>.inr d:=by rw[<-hres,eS,hl0,if_neg (by omega)]<;>rfl
   refine aa ?_;refine xp rfl (aq (H.CX ) rfl) ?_;refine xo rfl (wY) ?_;rintro _ h2 ⟨rfl,k2,e2,z2⟩;refine aa ?_;refine xo rfl (kX (ek:=Value.string) (ev:=Value.int .i64)) ?_;rintro _ h3 ⟨rfl,hm3,e3,z3⟩;have k2:aB h2 h1.size 66 [.slice none 0 0,.slice none 0 0]:=k2;have e13:=e2.trans e3;have hz1:=e1.size;refine aa ?_;refine xo rfl (bz rfl (oE ((htens.ah e1).ah e13) (aP.ints (aP.mv (aT.read (O:=fun _=>False) (h1:=fun _=>rfl) ho1 (fun _ _ k=>k)) (Mv.ah e13))) hi0.1 hi0.2)) ?_;rintro _ h4 ⟨rfl,e4⟩;have hm4:=hm3.ext e4 (fun k=>k);have z4:=e4.size;refine bN rfl (sH (v:=(0:Int)) gZ.str underlying95 underlying9 rfl rfl rfl rfl rfl hm4 (rfl:jh (bs (eG (l0.map Int.ofNat))) []=none)) ?_;rintro _ h5 ⟨rfl,hm5,x5,z5⟩;have hm5:dG Value.string (Value.int .i64) h5 h2.size (j6 0 [l0]):=hm5;have e05:ak h h5:=ak.only ((e1.trans e13).trans e4) x5 (by omega);have ho5:aT b7 h5 h.size 3 (.slice wa l0.length wc) l0:=aj.ext x5 (aT.ah (aT.ah ho1 e13) e4) (fun b hb (e:b=h2.size)=>by have:=(aj.lt ho1 hb).2;omega);have k5:aB h5 h1.size 66 [.slice none 0 0,.slice none 0 0]:=((k2.ah e3).ah e4).ext x5 (by show ¬_=_;omega);refine aa ?_;refine xo rfl (ji [_]) ?_;rintro _ _ ⟨rfl,rfl⟩;refine aa ?_;have e56:ak h5 (h5.push (.cells #[.slice wa l0.length wc] 39)):=Ext.push _ _ _
   have ls6:cN xW (fun b=>¬bw (Value.slice wa l0.length wc).ownBlock b) (h5.push (.cells #[.slice wa l0.length wc] 39)) h.size 39 (.slice (some ⟨h5.size,0,none⟩) 1 1) [l0] :=
    cN.lT (e:=xW) (cs:=[.slice wa l0.length wc]) ⟨_,rfl,aj.vD (h1:=fun _=>rfl) ho5 (fun b hb k=>k hb.symm)⟩ e05.size
   generalize h5.push (.cells #[.slice wa l0.length wc] 39)=h6 at *
   have mk6:fZ h h6 (bw (Value.slice wa l0.length wc).ownBlock) h1.size h2.size (.slice (some ⟨h5.size,0,none⟩) 1 1) (.slice none 0 0) (.slice none 0 0) [l0] [] [] :=
    ⟨e05.trans e56,k5.ah e56,nW.nil _ _ _ _ _,aT.nil _ _ _ _,hm5.ext e56 (fun k=>k),ls6,fun b hb=>aW.ext (aj.ty ho5 hb.symm) e56 (fun k=>k),fun b hb=>(by cases hb),hz1,by omega⟩
   refine C3 (σ:=Nat×Value) (fun q=>[(0,.pointer (some ⟨nb,0,none⟩)),(5,.pointer (some ⟨h1.size,0,none⟩)),(6,.map (some h2.size)),(7,q.2),(8,.int .i64 (q.1:Nat))]) (fun q h'=>∃C vn vr lists next rule,fZ h h' C h1.size h2.size q.2 vn vr lists next rule/\q.1<=lists.length/\lists.length<=2000/\(next.length=q.1/\rule.length=q.1)/\(∀l∈lists,l.Sublist (List.range ss.length))/\res=(match iG ss (2002-q.1) q.1 lists next rule with|none=>.inl 70|some d=>.inr d)) (fun q=>2002-q.1) ((0,.slice (some ⟨h5.size,0,none⟩) 1 1)) ⟨_,_,_,[l0],[],[],mk6,Nat.zero_le _,by simp,⟨rfl,rfl⟩,fun l hl=>by simp at hl;subst hl;exact hsub0,hres'⟩ ?_;rintro⟨i,vl⟩ g ⟨C,vn,vr,lists,next,rule,mk,hi,hl2,⟨hnl,hrl⟩,hsl,hcon⟩ ih
   try dsimp only
   dsimp only at mk hi hnl hrl hcon;obtain⟨css,hc1,hc2,hc3⟩:=id mk.ls;obtain⟨la,lc,rfl,_⟩:=hc2.open;have hng:bE g O nb v ss st:=hn.ah mk.ext (fun _ _ k=>k);have mkg:=mk;refine aa ?_;refine bF (fun hlt=>?_) (fun hlt=>?_)
   · have hil:i<lists.length:=by omega
     obtain⟨cur,hcur⟩:∃cur,lists[i]? =some cur:=⟨_,List.getElem?_eq_getElem hil⟩
     have hcsub:=hsl cur (List.mem_of_getElem? hcur);obtain⟨n,hnn⟩:∃n,2002-i=n+1:=⟨2001-i,by omega⟩
     rw[hnn,iG,hcur] at hcon;simp only at hcon;generalize hrow:iQ ss cur 256 0 lists []=tgt at hcon;refine aa ?_;refine xo rfl (jf) ?_;rintro _ g1 ⟨rfl,kz,ez,zz⟩;have kz:aB g1 g.size 68 (([]:List Int).map (Value.int .i64)++List.replicate (256-0) (Value.int .i64 0)):=kz;have mk1:=mk.ah ez;have hvz:vn.ownBlock≠some g.size:=fun e=>by have:=(mk.qh _ e).lt;omega
     refine aa ?_;refine C3 (σ:=Nat×Value) (fun q=>[(0,.pointer (some ⟨nb,0,none⟩)),(5,.pointer (some ⟨h1.size,0,none⟩)),(6,.map (some h2.size)),(7,q.2),(8,.int .i64 (i:Nat)),(9,.pointer (some ⟨g.size,0,none⟩)),(33,.int .i64 (q.1:Nat))]) (fun q h'=>∃C lists' row,fZ h h' C h1.size h2.size q.2 vn vr lists' next rule/\(q.1<=256/\row.length=q.1/\lists'.length<=2000+q.1)/\aB h' g.size 68 (row.map (Value.int .i64)++List.replicate (256-q.1) (Value.int .i64 0))/\lists'[i]? =some cur/\(∀l∈lists',l.Sublist (List.range ss.length))/\iQ ss cur (256-q.1) q.1 lists' row=tgt) (fun q=>256-q.1) ((0,.slice la lists.length lc)) ⟨C,lists,[],mk1,⟨Nat.zero_le _,rfl,by simp;omega⟩,kz,hcur,hsl,hrow⟩ ?_;rintro⟨b,vl⟩ g2 ⟨C,lists,row,mk,⟨hb,hrlen,hlb⟩,kz,hcur,hsl,hrow⟩ ih2
     try dsimp only
     dsimp only at mk hb hrlen hlb kz hrow;have hng:bE g2 O nb v ss st:=hn.ah mk.ext (fun _ _ k=>k);refine aa ?_;refine bF (fun hb256=>?_) (fun hb256=>?_)
     · obtain⟨m,hm⟩:∃m,256-b=m+1:=⟨255-b,by omega⟩
       rw[hm,iQ] at hrow;obtain⟨g',c',cs,hv',_,_,hrowv,_,⟨w,rfl,hw⟩,_⟩:=mk.ls.put hcur;subst hv';have hnlt:∀j∈cur,j<ss.length:=fun j hj=>List.mem_range.1 (hcsub.subset hj)
       have hcl:=hcsub.length_le;rw[List.length_range] at hcl;have hub:(UInt8.ofNat b).toNat=b:=by simp;omega
       have hwr:aP fX g2 (fun _=>False) w cur:=cK hw (fun _ k=>k.elim);have hstep:=xh (UInt8.ofNat b) hng hgood (by omega) hwr hnlt (by omega) (hpot _ _ hcsub);rw[hub] at hstep;have hlsub:=th ss (UInt8.ofNat b) cur
       iterate 4 refine bT ?_
       refine cU ?_
       iterate 2 refine aY ?_
       refine eW ?_;refine bT ?_;refine cU ?_
       iterate 3 refine aY ?_
       refine xp rfl (bK rfl rfl i rfl rfl (by have:=(List.getElem?_eq_some_iff.1 hcur).1;omega)) ?_;refine xp rfl (aE rfl (hrowv 0 _ rfl)) ?_;refine aY ?_;refine xp rfl (vj rfl (wrap_u8 ⟨by omega,by omega⟩)) ?_;refine xo rfl (bz rfl hstep) ?_;rintro w11 g3 ⟨ho3,e3⟩;generalize hl:cH ss (UInt8.ofNat b) cur=l at *;have hsN:cv ss cur lists b=if l.length=0 then (lists,-1) else match lX 0 lists l with|some i=>(lists,(i:Int))|none=>(lists++[l],(lists.length:Int)):=by unfold cv;rw[hl]<;>rfl
       have hil:=hint l hlsub;obtain⟨l11a,l11c,rfl,_⟩:=(show aj g3 g2.size 3 1 w11 l.length (l.map b7) from ho3).open;have mk3:=mk.ah e3;have kz3:=kz.ah e3;have hkey:∀{gg:af},ak g3 gg->an Tryd.prog 32 #[.slice l11a l.length l11c] gg (b8 fun r h'=>r= .string (bs (uL l))/\ak gg h'):=fun e=>oE (htens.ah (mk3.ext.trans e)) (aP.ints (aP.mv (aT.read (O:=fun _=>False) (h1:=fun _=>rfl) ho3 (fun _ _ k=>k)) (Mv.ah e))) hil.1 hil.2
       refine aa ?_;refine xo rfl (bz rfl (hkey (Ext.refl _ _))) ?_;rintro _ g4 ⟨rfl,e4⟩;have mk4:=mk3.ah e4;have kz4:=kz3.ah e4;refine xp rfl (av.qX (z:=.int .i64 0) gZ.str underlying95 underlying9 (by kernel_rfl) rfl rfl rfl mk4.mp) ?_;rw[sr];refine aa ?_
       have fin:∀(to:Int) (vl2:Value) (h':af) (ρ':Env),Sub [(0,.pointer (some ⟨nb,0,none⟩)),(5,.pointer (some ⟨h1.size,0,none⟩)),(6,.map (some h2.size)),(7,vl2),(8,.int .i64 (i:Nat)),(9,.pointer (some ⟨g.size,0,none⟩)),(10,.int .i64 (b:Nat)),(12,.int .i64 to),(33,.int .i64 (b:Nat))] ρ'->(∃C2,fZ h h' C2 h1.size h2.size vl2 vn vr (cv ss cur lists b).1 next rule)->to=(cv ss cur lists b).2->aB h' g.size 68 (row.map (Value.int .i64)++List.replicate (256-b) (Value.int .i64 0))->G Tryd.prog 17 f17 [.code [1,1,1,1,0,0,1,1,0,0,1,0,1,0,0,1,0,0,1,0,1,1,1,1,1,1],.blk 3,.code [1,1,1,0,0,1,0,1,0,0,1,0,0,1,0,1,1,1,1,1,1],.loop [0,0,1,0,1,0,0,1,0,0,1,0,1,1,1,1,1,1],.blk 2,.code [1,1,0,0,1,0,0,1,0,1,1,1,1,1,1],.blk 1,.code [1,1,0,0,1,0,1,1,1,1,1,1],.loop [0,0,1,0,1,1,1,1,1,1],.blk 0,.code [1,1,1,1,1,1,1]] ρ' h' (b8 fun r h'=>u6 res h' r/\ak h h'):=by
        rintro to vl2 g5 ρ' hsub ⟨C2,mk5⟩ hto kz5;refine G.sub (ρ':=[(0,.pointer (some ⟨nb,0,none⟩)),(5,.pointer (some ⟨h1.size,0,none⟩)),(6,.map (some h2.size)),(7,vl2),(8,.int .i64 (i:Nat)),(9,.pointer (some ⟨g.size,0,none⟩)),(10,.int .i64 (b:Nat)),(12,.int .i64 to),(33,.int .i64 (b:Nat))]) hsub ?_
        have hrs:(cv ss cur lists b).1.length<=lists.length+1/\(cv ss cur lists b).1[i]? =some cur/\∀x∈(cv ss cur lists b).1,x.Sublist (List.range ss.length):=by
         rw[hsN];split
         · exact⟨Nat.le_succ _,hcur,hsl⟩
         · split
           · exact⟨Nat.le_succ _,hcur,hsl⟩
           · refine⟨by simp,by rw[List.getElem?_append_left (List.getElem?_eq_some_iff.1 hcur).1];exact hcur,fun x hx=>?_⟩
             rcases List.mem_append.1 hx with k|k
             · exact hsl x k
             · have:x=l:=by simpa using k
               rw[this];exact hlsub
        have hcells:(row.map (Value.int .i64)++List.replicate (256-b) (Value.int .i64 0)).length=256:=by simp[hrlen];omega
        have hset:(row.map (Value.int .i64)++List.replicate (256-b) (Value.int .i64 0)).set (0+b*1) (.int .i64 to)=(row++[to]).map (Value.int .i64)++List.replicate (256-(b+1)) (Value.int .i64 0):=by
         rw[Nat.zero_add,Nat.mul_one,List.set_append_right _ _ (by simp;omega),show 256-b=(256-(b+1))+1 by omega,List.replicate_succ];have:b-(row.map (Value.int .i64)).length=0:=by simp;omega
         rw[this,List.set_cons_zero];simp
        have hblt:0+b*1<(row.map (Value.int .i64)++List.replicate (256-b) (Value.int .i64 0)).length:=by rw[hcells];omega
        refine cU ?_
        iterate 2 refine aY ?_
        refine xp rfl (wZ rfl rfl b rfl (by omega)) ?_;refine bN rfl (aI H.uf rfl rfl rfl (kz5.cell (List.getElem?_eq_getElem hblt)) kz5.nf) ?_;rintro _ g6 ⟨rfl,hg6⟩;have k6:=kz5.set (0+b*1) (.int .i64 to);rw[<-hg6,hset] at k6;have x6:Ext (fun y=>y=g.size) g5 g6:=by rw[hg6];exact Ext.bY _ _ _ rfl
        have hzge:h.size<=g.size:=mkg.ext.size;have mk6:=mk5.put x6 kz5.ty hvz hzge;refine aa ?_;exact ih2 (b+1,vl2) ⟨C2,_,row++[to],mk6,⟨by show b+1<=256;omega,by simp[hrlen],by show _<=2000+(b+1);omega⟩,k6,hrs.2.1,hrs.2.2,by show iQ ss cur (256-(b+1)) (b+1) _ _=tgt;rw[show 256-(b+1)=m by omega,hto];exact hrow⟩
       refine bF (fun hz11=>?_) (fun hz11=>?_)
       · have hl0':l.length=0:=by omega
         refine cU ?_;refine aY ?_;refine eW ?_;refine bT ?_;exact fin (-1) _ _ _ (by exact sb rfl) (by rw[hsN,if_pos hl0'];exact⟨C,mk4⟩) (by rw[hsN,if_pos hl0']) kz4
       · have hl0':¬l.length=0:=by omega
         rcases hfind:lX 0 lists l with _|j
         · refine aa ?_;refine n6 rfl (by simp) ?_;refine aa ?_;refine xo rfl (bz rfl (hkey e4)) ?_;rintro _ g5 ⟨rfl,e5⟩;have mk5:=mk4.ah e5;have hnone:jh (bs (uL l)) (j6 0 lists)=none:=by rw[sr,hfind];rfl
           refine aa ?_;refine bN rfl (aL.mapUpdate (v:=(lists.length:Int)) gZ.str underlying95 underlying9 rfl rfl rfl rfl rfl mk5.mp hnone) ?_;rintro _ g6 ⟨rfl,hm6,x6,z6⟩;have hm6:dG Value.string (Value.int .i64) g6 h2.size (j6 0 (lists++[l])):=by rw[tq,Nat.zero_add];exact hm6
           have mapne:∀{b:Nat}{t:TypeId},aW g5 b t->¬b=h2.size:=fun k e=>mk5.mp.ne k e.symm
           have e35:=e4.trans e5;have ho5w:aT b7 g5 g2.size 3 (.slice l11a l.length l11c) l:=aT.ah ho3 e35;have kz5:=kz4.ah e5;have kz6:=kz5.ext x6 (mapne kz5.ty);have d6:=mk5.dblk.ext x6 (mapne mk5.dblk.ty);have nx6:=aj.ext x6 mk5.nx (fun b hb=>mapne (mk5.qh b hb));have ru6:=aj.ext x6 mk5.ru (fun b hb=>mapne (mk5.pY b hb));have ho6w:aT b7 g6 g2.size 3 (.slice l11a l.length l11c) l:=aj.ext x6 ho5w (fun b hb=>mapne (aj.ty ho5w hb))
           have ls6:cN xW (fun b=>¬(C b\/bw (Value.slice l11a l.length l11c).ownBlock b)) g6 h.size 39 (.slice (some ⟨g',0,none⟩) lists.length c') lists :=
            mk5.ls.o9 x6 (fun b hb=>mapne (mk5.AZ b hb)) (fun b _ hb hC=>mapne (mk5.cty b hC) hb) (fun b _ hb hC=>hb (.inl hC))
           have lty6:aW g6 g' 39:=(mk5.AZ g' rfl).ext x6 (mapne (mk5.AZ g' rfl));obtain⟨css,hc1,hc2,hc3⟩:=id ls6;have hz5:=mk5.ext.size;have hz2g:=mk.ext.size;refine aa ?_;refine xo rfl (ji [_]) ?_;rintro _ _ ⟨rfl,rfl⟩;refine xo rfl (oS rfl rfl hc2 rfl rfl) ?_;rintro v7 g7 ⟨ho7,hx7,hx7',hv7⟩
           have lne:∀{b:Nat}{t:TypeId},aW g6 b t->39≠t->¬bw (Value.slice (some ⟨g',0,none⟩) lists.length c').ownBlock b:=fun k ht e=>by
            simp only[bw,Value.ownBlock,Option.some.injEq] at e;subst e;exact lty6.ne k ht rfl
           have hsz3:=e3.size;have hsz35:=e35.size;have ty6:∀{b:Nat}{t:TypeId},aW g5 b t->aW g6 b t:=fun k=>k.ext x6 (mapne k)
           have hls7:cN xW (fun b=>¬(C b\/bw (Value.slice l11a l.length l11c).ownBlock b)) g7 h.size 39 v7 (lists++[l]) :=
            cN.fo (h:=g6) (v:=.slice (some ⟨g',0,none⟩) lists.length c') (css:=css) (cs:=[.slice l11a l.length l11c]) hc1 hc3 ho7 hx7 hv7 ⟨_,rfl,aj.vD (h1:=fun _=>rfl) ho6w (fun b hb k=>by
             rcases k with k|k
             · exact lne (aj.ty ho6w hb) (by decide) k
             · exact k (.inr hb.symm))⟩
           have hmb6:¬bw (Value.slice (some ⟨g',0,none⟩) lists.length c').ownBlock h2.size:=fun e=>by
            simp only[bw,Value.ownBlock,Option.some.injEq] at e;exact hm6.ne (e▸lty6) rfl
           have hext7:ak h g7:=⟨by have:=hx7.size;omega,fun b hb k=>by
            rw[hx7.block b (by omega) (fun e=>by
             simp only[bw,Value.ownBlock,Option.some.injEq] at e;have:=mk5.Gj g' rfl;omega),x6.block b (by omega) (by have:=mk5.mge;omega)]
            exact mk5.ext.block b hb k⟩
           have mk7:fZ h g7 (fun b=>C b\/bw (Value.slice l11a l.length l11c).ownBlock b) h1.size h2.size v7 vn vr (lists++[l]) next rule :=
            ⟨hext7,d6.ext hx7 (lne d6.ty (by decide)),aj.ext hx7 nx6 (fun b hb=>lne (aj.ty nx6 hb) (by decide)),aj.ext hx7 ru6 (fun b hb=>lne (aj.ty ru6 hb) (by decide)),hm6.ext hx7 hmb6,hls7,
             fun b hb=>by
              rcases hb with hb|hb
              · exact aW.ext (ty6 (mk5.cty b hb)) hx7 (lne (ty6 (mk5.cty b hb)) (by decide))
              · exact aW.ext (aj.ty ho6w hb.symm) hx7 (lne (aj.ty ho6w hb.symm) (by decide)),
             fun b hb hC=>by
              rcases hC with hC|hC
              · exact mk5.cr b hb hC
              · have h1':=(mk.pY b hb).lt;have h2':=(aj.lt ho6w hC.symm).1;omega,mk5.dge,mk5.mge⟩
           obtain⟨v7a,v7c,rfl,_⟩:=ho7.open;refine aY ?_;refine eW ?_;refine bT ?_;exact fin (lists.length:Int) _ _ _ (by exact sb rfl) (by rw[hsN,if_neg hl0',hfind];exact⟨_,mk7⟩) (by rw[hsN,if_neg hl0',hfind]) (kz6.ext hx7 (lne kz6.ty (by decide)))
         · have hj:=mH lists 0 j l hfind;refine aa ?_;refine oe rfl (by simp) ?_
           iterate 2 refine bT ?_
           exact fin (j:Int) _ _ _ (by exact sb rfl) (by rw[hsN,if_neg hl0',hfind];exact⟨C,mk4⟩) (by rw[hsN,if_neg hl0',hfind]) kz4
     · obtain rfl:b=256:=by omega
       rw[Nat.sub_self,iQ] at hrow;subst hrow;simp only at hcon;obtain⟨css2,hd1,hd2,hd3⟩:=id mk.ls;obtain⟨la2,lc2,rfl,_⟩:=hd2.open;have hencr:bu (dO row)=row.map (Value.int .i64):=by rw[bu,js hrlen]
       rw[Nat.sub_self,List.replicate_zero,List.append_nil,<-hencr] at kz;refine aa ?_;refine bF (fun hbigl=>?_) (fun hbigl=>?_)
       · rw[if_pos (by omega)] at hcon;refine aa ?_;refine bU ?_;exact⟨_,rfl,by rw[hcon];rfl,mk.ext⟩
       · rw[if_neg (by omega)] at hcon
         have nne:∀{b:Nat}{t:TypeId},aW g2 b t->68≠t->¬(bw vn.ownBlock b\/Array.size g2<=b):=fun kt ht e=>by
          rcases e with e|e
          · exact(mk.qh _ e.symm).ne kt ht rfl
          · have:=kt.lt;omega
         have hzM:¬(bw vn.ownBlock g.size\/Array.size g2<=g.size):=by
          rintro(e|e)
          · exact hvz e.symm
          · have:=kz.lt;omega
         have hdM:=nne mk.dblk.ty (by decide);have hnx:aj g2 h.size 68 256 vn next.length (next.flatMap bu):=mk.nx
         have hone:∀u∈bu (dO row),u.oneCell'=true:=fun u hu=>by simp[bu] at hu;obtain⟨_,_,rfl⟩:=hu;rfl
         have hg2:=mk.ext.size;refine aa ?_;refine vg 11 (fun b=>bw vn.ownBlock b\/Array.size g2<=b) (fun i=>Nat.blt i 10) ?_;refine aS 0 ?_;refine aS 1 ?_;refine aS 2 ?_;refine aS 3 ?_;refine bL 4 rfl (fun h' e=>aE rfl (e.cell hdM (mk.dblk.cell (i:=0) rfl))) ?_;refine bL 5 rfl (fun h' e=>gj rfl (e.rowAt hzM kz.row)) ?_;refine eZ 6 rfl (aL.sd (cs:=bu (dO row)) underlying64 H.Cg rfl (jA _) (by decide)) ?_;rintro _ _ ⟨rfl,rfl⟩;refine⟨fun _=>(Ext.push _ _ _),?_⟩;refine eZ 7 rfl (aL.tV underlying64 H.Cg rfl rfl hnx rfl (by simp) hone (by simp only[maxLen];omega) (by omega) hg2) ?_;rintro v3 g3 ⟨ho3,hx3,hx3',hv3⟩;refine⟨fun _=>hx3'.mono (fun _ _ k=>.inl k),?_⟩;obtain⟨a3,c3,rfl,_⟩:=ho3.open;refine BL 8 ?_;refine aS 9 ?_;refine qp 10 rfl (n8 rfl rfl ((mk.dblk.ext hx3 (fun e=>hdM (.inl e))))) ?_;rintro _ g4 ⟨rfl,k4,x4,z4⟩;refine⟨nofun,?_⟩;have mk4:=mk.zf (r:=dO row) rfl ho3 hx3 k4 x4;obtain⟨g',c',cs,hv',_,_,hrowv,_,⟨w,rfl,hw⟩,_⟩:=mk4.ls.put hcur;cases hv';have hng4:bE g4 O nb v ss st:=hn.ah mk4.ext (fun _ _ k=>k);have hwr:aP fX g4 (fun _=>False) w cur:=cK hw (fun _ k=>k.elim);have hnlt:∀j∈cur,j<ss.length:=fun j hj=>List.mem_range.1 (hcsub.subset hj)
         have hcl:=hcsub.length_le;rw[List.length_range] at hcl
         have rne:∀{b:Nat}{t:TypeId},aW g4 b t->3≠t->¬(bw vr.ownBlock b\/Array.size g4<=b):=fun kt ht e=>by
          rcases e with e|e
          · exact(mk4.pY _ e.symm).ne kt ht rfl
          · have:=kt.lt;omega
         have hdM4:=rne mk4.dblk.ty (by decide);have hlM4:=rne (mk4.AZ g' rfl) (by decide);have hru:aj g4 h.size 3 1 vr rule.length (rule.map (Value.int .i64)):=mk4.ru;have hg4s:=mk4.ext.size;have hli:i<lists.length:=(List.getElem?_eq_some_iff.1 hcur).1;refine lg ?_;refine vg 16 (fun b=>bw vr.ownBlock b\/Array.size g4<=b) (fun i=>Nat.blt i 15) ?_;refine aS 0 ?_;refine aS 1 ?_;refine aS 2 ?_;refine aS 3 ?_;refine bL 4 rfl (fun h' e=>aE rfl (e.cell hdM4 (mk4.dblk.cell (i:=1) rfl))) ?_;refine aS 5 ?_;refine aS 6 ?_;refine aS 7 ?_;refine bL 8 rfl (fun h' e=>bK rfl rfl i rfl rfl) ?_;refine bL 9 rfl (fun h' e=>aE rfl (e.cell hlM4 (hrowv 0 _ rfl))) ?_;refine eZ 10 rfl (bz rfl (s8 hng4 (by omega) hwr hnlt (by omega))) ?_;rintro _ g5 ⟨rfl,hg5⟩;refine⟨fun _=>by subst hg5;exact Ext.refl _ _,?_⟩;subst hg5;refine eZ 11 rfl (ji [_]) ?_;rintro _ _ ⟨rfl,rfl⟩;refine⟨fun _=>by first|exact Ext.push _ _ _|assumption,?_⟩;refine eZ 12 rfl (oS rfl rfl hru rfl rfl) ?_;rintro v6 g6 ⟨ho6,hx6,hx6',hv6⟩;refine⟨fun _=>hx6'.mono (fun _ _ k=>.inl k),?_⟩;obtain⟨a6,c6,rfl,_⟩:=ho6.open;refine BL 13 ?_;refine aS 14 ?_;refine qp 15 rfl (n8 rfl rfl ((mk4.dblk.ext hx6 (fun e=>hdM4 (.inl e))))) ?_;rintro _ g7 ⟨rfl,k7,x7,z7⟩;refine⟨nofun,?_⟩;have mk7:=mk4.ze (x:=cm ss cur) rfl ho6 hx6 hv6 k7 x7;refine lg ?_;refine aa ?_;exact ih (i+1,_) ⟨C,_,_,lists,next++[dO row],rule++[cm ss cur],mk7,by show i+1<=lists.length;omega,by omega,⟨by simp[hnl],by simp[hrl]⟩,hsl,by rw[hcon,show 2002-(i+1)=n by omega]⟩
   · have hie:i=lists.length:=by omega
     have hnone:lists[i]? =none:=List.getElem?_eq_none (by omega);obtain⟨n,hnn⟩:∃n,2002-i=n+1:=⟨2001-i,by omega⟩
     rw[hnn,iG,hnone] at hcon;simp only at hcon;refine aa ?_;refine bU ?_;refine⟨_,rfl,?_,mk.ext⟩;rw[hcon];exact⟨h1.size,rfl,vn,vr,mk.dblk,nW.read mk.nx (fun _ _ k=>k),aT.read (h1:=fun _=>rfl) mk.ru (fun _ _ k=>k)⟩
theorem vO (r:Row):over (List.replicate 256 (Value.int .i64 0)) 0 (bu r)=bu r:=by
 unfold over;rw[List.take_zero,List.nil_append,jA,List.drop_of_length_le (by simp),List.append_nil]
theorem xJ {db:Nat}(k:ja h db d) (hok:d.Ok) :
 an Tryd.prog 22 #[.pointer (some ⟨db,0,none⟩)] h (b8 fun r h'=>aT Value.bool h' h.size 4 r (ax d)/\ak h h'):=by
 obtain⟨vn,vr,hk,⟨na,nn,nc,rfl,hnl,hnc,hnm,hgetn⟩,⟨ra,rn,rc,rfl,hrl,hrc,hrm,hgetr⟩⟩:=k;have hlen:=hok.len;have hsize:=hok.size;have hslN:aP yS h (fun _=>False) (.slice na nn nc) d.next:=⟨_,_,_,rfl,hnl,hnc,hnm,hgetn⟩
 have hslR:aP (.int .i64) h (fun _=>False) (.slice ra rn rc) d.rule:=⟨_,_,_,rfl,hrl,hrc,hrm,hgetr⟩
 subst hnl;generalize htgt:ax d=tgt;refine cV ?_;refine aa ?_;refine xp rfl (aE rfl (hk.cell (i:=0) rfl)) ?_;refine aa ?_;refine xo rfl (aL.cY underlying61 H.BP H.BS rfl rfl rfl (by omega) (by decide)) ?_;rintro _ h1 ⟨rfl,k1,e1⟩;have k1:aT Value.bool h1 h.size 4 (.slice (some ⟨h.size,0,none⟩) d.next.length d.next.length) (List.replicate d.next.length false):=by unfold aT;simpa using k1
 have hf0:dL (List.replicate d.next.length false)<=d.next.length:=by unfold dL;exact Nat.le_trans (List.length_filter_le _ _) (by simp)
 refine aa ?_;refine fG (σ:=Nat×Bool×List Bool) (fun q=>[(4,.bool q.2.1)]) (fun q h'=>ak h h'/\aT Value.bool h' h.size 4 (.slice (some ⟨h.size,0,none⟩) d.next.length d.next.length) q.2.2/\q.2.2.length=d.next.length/\(q.2.1=true->dL q.2.2<q.1/\nE d q.1 q.2.2=tgt)/\(q.2.1=false->q.2.2=tgt)) (fun q=>q.1+(if q.2.1 then 1 else 0)) ((d.next.length+1,true,List.replicate d.next.length false)) ⟨e1,k1,by simp,fun _=>⟨Nat.lt_succ_of_le hf0,htgt⟩,fun k=>(by cases k)⟩ rfl ?_;rintro⟨n,ag,out⟩ g ⟨eg,ho,hol,hT,hF⟩ ih
 try dsimp only
 dsimp only at ho hol hT hF;refine aa ?_;refine jX (fun hag=>?_) (fun hag=>?_)
 · subst hag;obtain⟨hfn,hcon⟩:=hT rfl;obtain⟨n,rfl⟩:∃m,n=m+1:=⟨n-1,by omega⟩
   rw[nE] at hcon;have hless:=fI d d.next.length 0 out false (by omega)
   generalize hps:bD d d.next.length 0 out false=ps at hcon hless
   refine aa ?_;refine xp rfl (aE rfl ((hk.ah eg).cell (i:=0) rfl)) ?_;refine aa ?_;refine fG (σ:=Nat×Bool×List Bool) (fun q=>[(4,.bool q.2.1),(21,.int .i64 (q.1:Nat))]) (fun q h'=>ak h h'/\aT Value.bool h' h.size 4 (.slice (some ⟨h.size,0,none⟩) d.next.length d.next.length) q.2.2/\q.2.2.length=d.next.length/\q.1<=d.next.length/\bD d (d.next.length-q.1) q.1 q.2.2 q.2.1=ps) (fun q=>d.next.length-q.1) ((0,false,out)) ⟨eg,ho,hol,Nat.zero_le _,hps⟩ rfl ?_;rintro⟨k,ag,out⟩ g2 ⟨eg2,ho,hol,hkl,hcon2⟩ ih2
   try dsimp only
   dsimp only at ho hol hkl hcon2;refine aa ?_;refine bF (fun hlt=>?_) (fun hlt=>?_)
   · have hkN:k<d.next.length:=by omega
     obtain⟨m,hm⟩:∃m,d.next.length-k=m+1:=⟨d.next.length-k-1,by omega⟩
     rw[hm,bD] at hcon2;obtain⟨r,hr⟩:∃r,d.next[k]? =some r:=⟨_,List.getElem?_eq_getElem hkN⟩
     obtain⟨oa',n',c',hv',_,_,_,hgetn⟩:=id (hslN.mv (Mv.ah eg2));cases hv';obtain⟨b1,o1,cs1,ha1,_,hrow1,rfl⟩:=hgetn k r hr;have hone:∀u∈bu r,u.oneCell'=true:=fun u hu=>by simp[bu] at hu;obtain⟨_,_,rfl⟩:=hu;rfl
     obtain⟨bx,hbx⟩:∃bx,out[k]? =some bx:=⟨_,List.getElem?_eq_getElem (by omega)⟩
     have hgd:out.getD k false=bx:=by rw[List.getD_eq_getElem?_getD,hbx];rfl
     rw[hgd] at hcon2
     iterate 4 refine bT ?_
     refine cU ?_;refine aY ?_;refine xp rfl (bK rfl rfl k rfl ha1) ?_;refine xp rfl (gj rfl hrow1) ?_;refine xo rfl (jf) ?_;rintro _ g3 ⟨rfl,k6,e3,z3⟩;have k6:aB g3 g2.size 68 (List.replicate 256 (Value.int .i64 0)):=k6;refine aa ?_;refine bN rfl (dx rfl rfl k6 hone) ?_;rintro _ g4 ⟨rfl,k7,x7,z7⟩;have k7:aB g4 g2.size 68 (bu r):=by rw[<-vO r];exact k7
     have e4:ak g2 g4:=ak.only e3 x7 (Nat.le_refl _);have eg4:=eg2.trans e4;have ho4:=aT.ah ho e4;obtain⟨gg,c4,hv4,hgb,hglt,hcell,hfz,hset⟩:=ho4.at hbx;rw[hol] at hv4;cases hv4;refine eW ?_
     iterate 2 refine bT ?_
     refine cU ?_
     iterate 2 refine aY ?_
     refine xp rfl (bK rfl rfl k rfl rfl) ?_;refine xp rfl (aE rfl hcell) ?_;refine aa ?_;refine jX (fun hb=>?_) (fun hb=>?_)
     · subst hb;rw[if_pos rfl] at hcon2;refine aa ?_;exact ih2 (k+1,ag,out) ⟨eg4,ho4,hol,hkN,by show bD d (d.next.length-(k+1)) _ _ _=ps;rw[show d.next.length-(k+1)=m by omega];exact hcon2⟩
     · subst hb;rw[if_neg (by decide)] at hcon2;obtain⟨x,hx⟩:∃x,d.rule[k]? =some x:=⟨_,List.getElem?_eq_getElem (by omega)⟩
       have hru:d.ru k=x:=by unfold aJ.ru;rw[List.getD_eq_getElem?_getD,hx];rfl
       have hrow:d.row k=r.v:=by unfold aJ.row;rw[hr]
       obtain⟨oa',n',c',hv',_,_,_,hgetr⟩:=id (hslR.mv (Mv.ah eg4));cases hv';obtain⟨b2,o2,cs2,ha2,_,hrow2,rfl⟩:=hgetr k x hx;refine aa ?_;refine xp rfl (aE rfl ((hk.ah eg4).cell (i:=1) rfl)) ?_;refine aY ?_;refine xp rfl (bK rfl rfl k rfl ha2) ?_;refine xp rfl (aE rfl (hrow2 0 _ rfl)) ?_;refine aY ?_;refine xp rfl (bK rfl rfl k rfl rfl) ?_;refine bN rfl (aI H.tg rfl rfl rfl hcell hfz) ?_;rintro _ g5 ⟨rfl,hg5⟩;have hset:=hset (decide (0<=x));rw[<-hg5] at hset;have x5:Ext (fun b=>b=h.size) g4 g5:=by rw[hg5];exact Ext.bY _ _ _ rfl
       have e5:ak h g5:=ak.only eg4 x5 (Nat.le_refl _);have hz2:=eg2.size;have hlt2:h.size<g2.size:=(aj.lt ho rfl).2;have k8:=k7.ext x5 (by show ¬_=_;omega);refine aa ?_;refine xp rfl (gj rfl k8.row) ?_;refine aa ?_;refine fG (σ:=Nat) (fun j=>[(42,.int .i64 (j:Nat))]) (fun j h'=>ak h h'/\aT Value.bool h' h.size 4 (.slice (some ⟨h.size,0,none⟩) d.next.length d.next.length) (out.set k (decide (0<=x) ||(r.v.take j).any (eo out)))/\j<=256) (fun j=>256-j) (0) ⟨e5,by simpa using hset,Nat.zero_le _⟩ rfl ?_;rintro j g6 ⟨eg6,ho6,hj⟩ ih3;refine aa ?_;refine bF (fun hlt3=>?_) (fun hlt3=>?_)
       · have hj2:j<256:=by omega
         obtain⟨t,ht⟩:∃t,r.v[j]? =some t:=⟨_,List.getElem?_eq_getElem (by rw[r.len];exact hj2)⟩
         have htr:(r.v.take (j+1)).any (eo out)=((r.v.take j).any (eo out) ||eo out t):=by rw[List.take_add_one,ht,List.any_append];simp
         have htm:=hok.to r (List.mem_of_getElem? hr) t (List.mem_of_getElem? ht);generalize hc:(decide (0<=x) ||(r.v.take j).any (eo out))=cb at ho6;have hcell6:(out.set k cb)[k]? =some cb:=by rw[List.getElem?_set_self (by rw[hol];exact hkN)]
         obtain⟨gg,c6,hv6,_,_,hcc6,hfz6,hset6⟩:=ho6.at hcell6;rw[List.length_set,hol] at hv6;cases hv6
         have fin:∀y g7,y=(decide (0<=x) ||(r.v.take (j+1)).any (eo out))->g7=bY g6 ⟨h.size,0+k*1,none⟩ (.bool y)->ak h g7/\aT Value.bool g7 h.size 4 (.slice (some ⟨h.size,0,none⟩) d.next.length d.next.length) (out.set k (decide (0<=x) ||(r.v.take (j+1)).any (eo out)))/\j+1<=256:=by
          rintro y g7 rfl rfl;have k9:=hset6 (decide (0<=x) ||(r.v.take (j+1)).any (eo out));rw[List.set_set] at k9;exact⟨ak.only eg6 (Ext.bY (M:=fun b=>b=h.size) g6 _ _ rfl) (Nat.le_refl _),k9,hj2⟩
         refine aa ?_;refine xp rfl (av.rI underlying68 H.uf H.BQ rfl rfl j rfl hj2 (show (bu r).toArray[j]? =some (Value.int .i64 t) by simp[bu,ht])) ?_;refine aY ?_;refine eW ?_;refine cU ?_
         iterate 4 refine aY ?_
         refine xp rfl (bK rfl rfl k rfl rfl) ?_;refine xp rfl (aE rfl hcc6) ?_;refine aa ?_;refine ie 51 (fun hg=>?_) (fun hg=>?_)
         · iterate 8 refine DJ ?_
           refine aY ?_;refine xp rfl (bK rfl rfl k rfl rfl) ?_;refine bN rfl (aI H.tg rfl rfl rfl hcc6 hfz6) ?_;rintro _ g7 ⟨rfl,hg7⟩;refine aa ?_;exact ih3 (j+1) (fin true g7 (by rw[htr,<-Bool.or_assoc,hc,hg];rfl) hg7)
         · refine aa ?_;refine ie 54 (fun hg2=>?_) (fun hg2=>?_)
           · have hg2':=of_decide_eq_true hg2;obtain⟨t2,rfl⟩:=Int.eq_ofNat_of_zero_le hg2';obtain⟨bt,hbt⟩:∃bt,(out.set k cb)[t2]? =some bt:=⟨_,List.getElem?_eq_getElem (by rw[List.length_set,hol];omega)⟩
             obtain⟨gg,c6,hv6,_,_,hct,_,_⟩:=ho6.at hbt;rw[List.length_set,hol] at hv6;cases hv6
             have hlt2:eo out (t2:Nat)=bt:=by
              unfold eo;rw[decide_eq_true (show (0:Int)<=(t2:Nat) by omega),Bool.true_and,Int.toNat_natCast,List.getD_eq_getElem?_getD]
              by_cases e:k=t2
              · subst e;rw[hcell6] at hbt;cases hbt;rw[hbx,hg];rfl
              · rw[List.getElem?_set_ne e] at hbt;rw[hbt];rfl
             iterate 2 refine aY ?_
             refine xp rfl (bK rfl rfl t2 rfl rfl) ?_;refine xp rfl (aE rfl hct) ?_
             iterate 2 refine aY ?_
             refine xp rfl (bK rfl rfl k rfl rfl) ?_;refine bN rfl (aI H.tg rfl rfl rfl hcc6 hfz6) ?_;rintro _ g7 ⟨rfl,hg7⟩;refine aa ?_;exact ih3 (j+1) (fin bt g7 (by rw[htr,<-Bool.or_assoc,hc,hg,hlt2,Bool.false_or]) hg7)
           · have hg2':=of_decide_eq_false hg2
             iterate 4 refine DJ ?_
             iterate 2 refine aY ?_
             refine xp rfl (bK rfl rfl k rfl rfl) ?_;refine bN rfl (aI H.tg rfl rfl rfl hcc6 hfz6) ?_;rintro _ g7 ⟨rfl,hg7⟩;refine aa ?_;exact ih3 (j+1) (fin false g7 (by rw[htr,<-Bool.or_assoc,hc,hg];unfold eo;rw[decide_eq_false hg2'];rfl) hg7)
       · have hje:j=256:=by omega
         have hla:(decide (0<=x) ||(r.v.take j).any (eo out))=ct d out k:=by
          unfold ct;rw[hru,hrow,hje,List.take_of_length_le (by rw[r.len];exact Nat.le_refl _)]
         rw[hla] at ho6;have hcell6:(out.set k (ct d out k))[k]? =some (ct d out k):=by rw[List.getElem?_set_self (by rw[hol];exact hkN)]
         obtain⟨gg,c6,hv6,_,_,hcc6,hfz6,_⟩:=ho6.at hcell6;rw[List.length_set,hol] at hv6;cases hv6;refine bT ?_;refine jY [(4,.bool (ag ||ct d out k))] rfl ?_ ?_
         · refine aa ?_;refine ie 64 (fun hg=>?_) (fun hg=>?_)
           · refine aa ?_;exact bH rfl ⟨au rfl (by rw[hg];rfl),sb rfl⟩
           · iterate 2 refine aY ?_
             refine xp rfl (bK rfl rfl k rfl rfl) ?_;refine xp rfl (aE rfl hcc6) ?_;refine aa ?_;exact bH rfl ⟨au rfl (by rw[hg];rfl),sb rfl⟩
         · refine aa ?_;exact ih2 (k+1,ag ||ct d out k,out.set k (ct d out k)) ⟨eg6,ho6,by show (out.set k _).length=_;rw[List.length_set];exact hol,hkN,by show bD d (d.next.length-(k+1)) _ _ _=ps;rw[show d.next.length-(k+1)=m by omega];exact hcon2⟩
   · have hke:d.next.length-k=0:=by omega
     rw[hke,bD] at hcon2;subst hcon2;simp only at hcon hless;refine aa ?_
     exact ih (n,ag,out) ⟨eg2,ho,hol,fun ht=>by
      subst ht;rw[if_pos rfl] at hcon
      rcases hless.2 rfl with k|k
      · cases k
      · exact⟨by show dL out<n;omega,hcon⟩,fun hf=>by
      subst hf;rw[if_neg (by decide)] at hcon;exact hcon⟩ (by show n+(if ag=true then 1 else 0)<n+1+(if true=true then 1 else 0);rw[if_pos rfl];split<;>omega)
 · subst hag;have hcon:=hF rfl;refine aa ?_;refine bU ?_;exact⟨_,rfl,by rw[<-hcon];unfold aT at ho ⊢;rw[hol] at ho ⊢;exact ho,eg⟩
def eY:Nat->List (List Int)->List (ByteArray×Int)
 |_,[]=>[]
 |i,x::r=>(bs (eG x),(i:Int))::eY (i+1) r
theorem qH:∀(ls:List (List Int)) (i:Nat) (l:List Int),eY i (ls++[l])=eY i ls++[(bs (eG l),((i+ls.length:Nat):Int))]
 | [],i,l=>by simp[eY]
 |x::r,i,l=>by
  simp only[List.cons_append,eY];rw[qH r (i+1) l,List.length_cons,show i+1+r.length=i+(r.length+1) by omega]
theorem ot:∀(ls:List (List Int)) (i:Nat),(eY i ls).length=ls.length
 | [],_=>rfl
 |x::r,i=>by rw[eY,List.length_cons,List.length_cons,ot r (i+1)]
theorem iY:∀(ls:List (List Int)) (i:Nat) (l:List Int),jh (bs (eG l)) (eY i ls)=(iy i ls l).map fun j=>(j:Int)
 | [],i,l=>rfl
 |x::r,i,l=>by
  rw[eY,jh,iy]
  by_cases h:l=x
  · subst h;rw[if_pos rfl,if_pos rfl];rfl
  · have hk:¬bs (eG l)=bs (eG x):=fun e=>h (key_inj (mQ e))
    rw[if_neg hk,if_neg h];exact iY r (i+1) l
theorem si {t:Int}(h:t<0\/live.getD t.toNat false=false):bG live cls t= -2:=if_pos h
theorem yd {t:Int}(h:¬(t<0\/live.getD t.toNat false=false)):bG live cls t=cls.getD t.toNat 0:=if_neg h
theorem pI (hcb:∀x∈cls,-1<=x/\x<=1000000) (k:Nat) : -1<=cls.getD k 0/\cls.getD k 0<=1000000:=by
 rw[List.getD_eq_getElem?_getD];cases hk:cls[k]? with
 |none=>simp
 |some x=>exact hcb x (List.mem_of_getElem? hk)
theorem uk (hcb:∀x∈cls,-1<=x/\x<=1000000) (k:Nat):∀x∈dz d live cls k,-9223372036854775808<=x/\x<=9223372036854775807:=by
 intro x hx
 rcases List.mem_cons.1 hx with e|e
 · have:=pI hcb k;omega
 · obtain⟨t,_,rfl⟩:=List.mem_map.1 e;unfold bG;split
   · omega
   · have:=pI hcb t.toNat;omega
theorem rR:∀(ls:List (List Int)) (i:Nat) (l:List Int),iy i ls l=none->iy i (ls++[l]) l=some (i+ls.length)
 | [],i,l,_=>by simp[iy]
 |x::r,i,l,h=>by
  rw[iy] at h;split at h
  · cases h
  · rename_i hn;rw[List.cons_append,iy,if_neg hn,rR r (i+1) l h,List.length_cons]
    congr 1;omega
theorem sZ {db:Nat}{lv:Value}(htens:lI h) (k:ja h db d) (hok:d.Ok) (hlv:aP .bool h (fun _=>False) lv live) (hll:live.length=d.next.length) :
 an Tryd.prog 23 #[.pointer (some ⟨db,0,none⟩),lv] h (b8 fun r h'=>aT (Value.int .i64) h' h.size 3 r (aN d live)/\ak h h'):=by
 obtain⟨vn,vr,hk,⟨na,nn,nc,rfl,hnl,hnc,hnm,hgetn⟩,⟨ra,rn,rc,rfl,hrl,hrc,hrm,hgetr⟩⟩:=k;obtain⟨va,vm,vc,rfl,hvl,hvc,hvm,hgetv⟩:=hlv;have hlen:=hok.len;have hsize:=hok.size;have hslN:aP yS h (fun _=>False) (.slice na nn nc) d.next:=⟨_,_,_,rfl,hnl,hnc,hnm,hgetn⟩
 have hslR:aP (.int .i64) h (fun _=>False) (.slice ra rn rc) d.rule:=⟨_,_,_,rfl,hrl,hrc,hrm,hgetr⟩
 have hslV:aP .bool h (fun _=>False) (.slice va vm vc) live:=⟨_,_,_,rfl,hvl,hvc,hvm,hgetv⟩
 subst hnl;generalize htgt:aN d live=tgt;refine cV ?_;refine aa ?_;refine xp rfl (aE rfl (hk.cell (i:=0) rfl)) ?_;refine aa ?_;refine xo rfl (aL.cY underlying39 H.Er H.FT rfl rfl rfl (by omega) (by decide)) ?_;rintro _ h1 ⟨rfl,k1,e1⟩;have k1:aT (Value.int .i64) h1 h.size 3 (.slice (some ⟨h.size,0,none⟩) d.next.length d.next.length) (List.replicate d.next.length 0):=by unfold aT;simpa using k1
 refine aa ?_;refine fG (σ:=Nat) (fun i=>[(26,.int .i64 (i:Nat))]) (fun i h'=>ak h h'/\aT (Value.int .i64) h' h.size 3 (.slice (some ⟨h.size,0,none⟩) d.next.length d.next.length) (d.rule.take i++List.replicate (d.next.length-i) 0)/\i<=d.next.length) (fun i=>d.next.length-i) (0) ⟨e1,by simpa using k1,Nat.zero_le _⟩ rfl ?_;rintro i g ⟨eg,ho,hi⟩ ih;refine aa ?_;refine bF (fun hlt=>?_) (fun hlt=>?_)
 · have hiN:i<d.next.length:=by omega
   obtain⟨x,hx⟩:∃x,d.rule[i]? =some x:=⟨_,List.getElem?_eq_getElem (by omega)⟩
   have hxe:d.rule[i]'(by omega)=x:=(List.getElem?_eq_some_iff.1 hx).2;obtain⟨oa',n',c',hv',_,_,_,hgetr⟩:=id (hslR.mv (Mv.ah eg));cases hv';obtain⟨b2,o2,cs2,ha2,_,hrow2,rfl⟩:=hgetr i x hx;obtain⟨gg,c4,hv4,hgb,hglt,hcell,hfz,hset⟩:=ho.at (wD (z:=(0:Int)) hlen hiN);rw[wC hlen hi] at hv4;cases hv4;refine aa ?_;refine xp rfl (aE rfl ((hk.ah eg).cell (i:=1) rfl)) ?_;refine aY ?_;refine xp rfl (bK rfl rfl i rfl ha2) ?_;refine xp rfl (aE rfl (hrow2 0 _ rfl)) ?_;refine xp rfl (bK rfl rfl i rfl rfl) ?_;refine bN rfl (aI H.uf rfl rfl rfl hcell hfz) ?_;rintro _ g2 ⟨rfl,hg2⟩;have hset:=hset x;rw[<-hg2,<-hxe,rU hlen hiN] at hset;have x2:Ext (fun b=>b=h.size) g g2:=by rw[hg2];exact Ext.bY _ _ _ rfl
   have e2:ak h g2:=ak.only eg x2 (Nat.le_refl _);refine aa ?_;exact ih (i+1) ⟨e2,hset,hiN⟩
 · obtain rfl:i=d.next.length:=by omega
   rw[Nat.sub_self,List.replicate_zero,List.append_nil,List.take_of_length_le (by omega)] at ho;refine aa ?_;refine fG (σ:=Nat×Nat×Value×List Int) (fun q=>[(5,q.2.2.1),(7,.int .i64 (q.2.1:Nat))]) (fun q h'=>ak h h'/\aT (Value.int .i64) h' h.size 3 q.2.2.1 q.2.2.2/\q.2.2.2.length=d.next.length/\(∀x∈q.2.2.2,-1<=x/\x<=1000000)/\(q.2.1<=d.next.length/\ia q.2.1 q.2.2.2/\d.next.length+1<=q.1+q.2.1)/\iJ d live q.1 q.2.1 q.2.2.2=tgt) (fun q=>q.1) ((d.next.length+1,0,.slice (some ⟨h.size,0,none⟩) d.next.length d.next.length,d.rule)) ⟨eg,ho,hlen,hok.ru,⟨Nat.zero_le _,fun i hi=>absurd hi (Nat.not_lt_zero _),by simp⟩,htgt⟩ rfl ?_;rintro⟨n,many,vcl,cls⟩ g ⟨eg,ho,hcl,hcb,⟨hmN,hcov,hfuel⟩,hcon⟩ ih
   try dsimp only
   dsimp only at ho hcl hcb hmN hcov hfuel hcon;obtain⟨n,rfl⟩:∃m,n=m+1:=⟨n-1,by omega⟩
   rw[iJ] at hcon;have hmore:=kP (d:=d) (live:=live) hcov hcl;have hend:=dc d live cls;generalize hps:aK d live cls d.next.length 0 [] []=ps at hcon hmore hend
   obtain⟨la,lc,rfl,_⟩:=(show aj g h.size 3 1 vcl cls.length (cls.map (Value.int .i64)) from ho).open;rw[hcl] at ho;have hown:∀b,(Value.slice la d.next.length lc).ownBlock=some b->b<g.size:=fun b hb=>(aj.lt ho hb).2
   rw[hcl];refine aa ?_;refine xo rfl (kX (ek:=Value.string) (ev:=Value.int .i64)) ?_;rintro _ g1 ⟨rfl,hm1,e1',z1⟩;refine aa ?_;refine xo rfl (aL.cY underlying39 H.Er H.FT rfl rfl rfl (by omega) (by decide)) ?_;rintro _ g2 ⟨rfl,k2,e2⟩;have k2:aT (Value.int .i64) g2 g1.size 3 (.slice (some ⟨g1.size,0,none⟩) d.next.length d.next.length) (List.replicate d.next.length 0):=by unfold aT;simpa using k2
   have hm2:=hm1.ext e2 (fun k=>k);have e12:=e1'.trans e2;refine aa ?_;refine xp rfl (aE rfl ((hk.ah (eg.trans e12)).cell (i:=0) rfl)) ?_;refine aa ?_;refine fG (σ:=Nat×List (List Int)×List Int) (fun q=>[(49,.int .i64 (q.1:Nat))]) (fun q h'=>ak g h'/\dG Value.string (Value.int .i64) h' g.size (eY 0 q.2.1)/\aT (Value.int .i64) h' g1.size 3 (.slice (some ⟨g1.size,0,none⟩) d.next.length d.next.length) (q.2.2++List.replicate (d.next.length-q.1) 0)/\(q.1<=d.next.length/\q.2.2.length=q.1/\q.2.1.length<=q.1)/\aK d live cls (d.next.length-q.1) q.1 q.2.1 q.2.2=ps) (fun q=>d.next.length-q.1) ((0,[],[])) ⟨e12,hm2,k2,⟨Nat.zero_le _,rfl,Nat.le_refl _⟩,hps⟩ rfl ?_;rintro⟨k,seen,after⟩ g3 ⟨e3,hmp,haf,⟨hkN,hal,hsl⟩,hcon2⟩ ih2
   try dsimp only
   dsimp only at hmp haf hkN hal hsl hcon2;have eg3:=eg.trans e3;have ho3:=aT.ah ho e3;refine aa ?_;refine bF (fun hlt=>?_) (fun hlt=>?_)
   · have hkN:k<d.next.length:=by omega
     obtain⟨m,hm⟩:∃m,d.next.length-k=m+1:=⟨d.next.length-k-1,by omega⟩
     rw[hm,aK] at hcon2;obtain⟨r,hr⟩:∃r,d.next[k]? =some r:=⟨_,List.getElem?_eq_getElem hkN⟩
     obtain⟨oa',n',c',hv',_,_,_,hgetn⟩:=id (hslN.mv (Mv.ah eg3));cases hv';obtain⟨b1,o1,cs1,ha1,_,hrow1,rfl⟩:=hgetn k r hr;have hone:∀u∈bu r,u.oneCell'=true:=fun u hu=>by simp[bu] at hu;obtain⟨_,_,rfl⟩:=hu;rfl
     have hrow:d.row k=r.v:=by unfold aJ.row;rw[hr]
     iterate 4 refine bT ?_
     refine cU ?_;refine aY ?_;refine xp rfl (bK rfl rfl k rfl ha1) ?_;refine xp rfl (gj rfl hrow1) ?_;refine xo rfl (jf) ?_;rintro _ g4 ⟨rfl,k4,e4,z4⟩;have k4:aB g4 g3.size 68 (List.replicate 256 (Value.int .i64 0)):=k4;refine aa ?_;refine bN rfl (dx rfl rfl k4 hone) ?_;rintro _ g5 ⟨rfl,k5,x5,z5⟩;have k5:aB g5 g3.size 68 (bu r):=by rw[<-vO r];exact k5
     have e5:ak g3 g5:=ak.only e4 x5 (Nat.le_refl _);have ho5:=aT.ah ho3 e5;obtain⟨c,hc⟩:∃c,cls[k]? =some c:=⟨_,List.getElem?_eq_getElem (by omega)⟩
     have hgd:cls.getD k 0=c:=by rw[List.getD_eq_getElem?_getD,hc];rfl
     obtain⟨gg,c4,hv4,hgb,hglt,hcell,hfz,hset⟩:=ho5.at hc;rw[hcl] at hv4;have hla:la=some ⟨gg,0,none⟩:=by cases hv4;rfl
     refine eW ?_;refine bT ?_;refine cU ?_
     iterate 2 refine aY ?_
     refine xp rfl (bK rfl rfl k rfl hla) ?_;refine xp rfl (aE rfl hcell) ?_;have e56:ak g5 (g5.push (.cells #[.int .i64 c] 3)):=Ext.push _ _ _;have hl6:aT (Value.int .i64) (g5.push (.cells #[.int .i64 c] 3)) g5.size 3 (.slice (some ⟨g5.size,0,none⟩) 1 1) [c]:=kW (Value.int .i64) g5 3 [c] 1 rfl (by decide) g5.size (Nat.le_refl _) rfl;refine xo rfl (ji [_]) ?_;rintro _ _ ⟨rfl,rfl⟩;refine aa ?_;generalize g5.push (.cells #[.int .i64 c] 3)=g6 at *;have k6:=k5.ah e56;have e36:ak g3 g6:=e5.trans e56;have ho6:=aT.ah ho5 e56;have hz5:=e5.size;refine xp rfl (gj rfl k6.row) ?_;refine aa ?_;refine fG (σ:=Nat×Value) (fun q=>[(12,q.2),(60,.int .i64 (q.1:Nat))]) (fun q h'=>ak g3 h'/\aT (Value.int .i64) h' g5.size 3 q.2 (c::(r.v.take q.1).map (bG live cls))/\q.1<=256/\g5.size<=h'.size) (fun q=>256-q.1) ((0,.slice (some ⟨g5.size,0,none⟩) 1 1)) ⟨e36,hl6,Nat.zero_le _,e56.size⟩ rfl ?_;rintro⟨j,vl⟩ g7 ⟨e7,hl7,hj,hz7⟩ ih3
     try dsimp only
     dsimp only at hl7 hj;have eg7:=eg3.trans e7;have ho7:=aT.ah ho3 e7;have hlen7:(c::(r.v.take j).map (bG live cls)).length=j+1:=by simp[r.len];omega
     refine aa ?_;refine bF (fun hlt3=>?_) (fun hlt3=>?_)
     · have hj2:j<256:=by omega
       obtain⟨t,ht⟩:∃t,r.v[j]? =some t:=⟨_,List.getElem?_eq_getElem (by rw[r.len];exact hj2)⟩
       have htm:=hok.to r (List.mem_of_getElem? hr) t (List.mem_of_getElem? ht);have htr:c::(r.v.take (j+1)).map (bG live cls)=(c::(r.v.take j).map (bG live cls))++[bG live cls t]:=by rw[List.take_add_one,ht];simp
       have hlo:aj g7 g5.size 3 1 vl (c::(r.v.take j).map (bG live cls)).length ((c::(r.v.take j).map (bG live cls)).map (Value.int .i64)):=hl7;have hlo2:=hlo;rw[hlen7] at hlo2;obtain⟨wa,wc,rfl,_⟩:=hlo2.open;have hl8:aT (Value.int .i64) g7 g5.size 3 (.slice wa (j+1) wc) (c::(r.v.take j).map (bG live cls)):=hl7
       have fin:∀v8 g8 x,aj g8 g5.size 3 1 v8 (j+1+1) ((c::(r.v.take j).map (bG live cls)).map (Value.int .i64)++[.int .i64 x])->Ext (bw (Value.slice wa (j+1) wc).ownBlock) g7 g8->x=bG live cls t->ak g3 g8/\aT (Value.int .i64) g8 g5.size 3 v8 (c::(r.v.take (j+1)).map (bG live cls))/\j+1<=256/\g5.size<=g8.size:=by
        rintro v8 g8 x ho hx rfl;refine⟨aT.grown e7 hl8 hz5 hx,?_,hj2,Nat.le_trans hz7 hx.size⟩;rw[htr];exact aT.of ho hlen7.symm rfl rfl
       refine aa ?_;refine xp rfl (av.rI underlying68 H.uf H.BQ rfl rfl j rfl hj2 (show (bu r).toArray[j]? =some (Value.int .i64 t) by simp[bu,ht])) ?_;refine aY ?_;refine eW ?_;refine bT ?_;refine cU ?_
       iterate 3 refine aY ?_
       refine ie 65 (fun hg=>?_) (fun hg=>?_)
       · have hg':=of_decide_eq_true hg;refine aa ?_;refine n6 rfl (by simp) ?_;refine aa ?_;refine xo rfl (ji [_]) ?_;rintro _ _ ⟨rfl,rfl⟩;refine xo rfl (oS rfl rfl hlo2 rfl rfl) ?_;rintro v8 g8 ⟨ho8,hx8,hx8',hv8⟩;have ff:=fin v8 g8 (-2) ho8 hx8 (si (.inl hg')).symm;obtain⟨v8a,v8c,rfl,_⟩:=ho8.open;refine aa ?_;exact ih3 (j+1,_) ff
       · have hg':=of_decide_eq_false hg;obtain⟨t2,rfl⟩:=Int.eq_ofNat_of_zero_le (show 0<=t by omega);obtain⟨bt,hbt⟩:∃bt,live[t2]? =some bt:=⟨_,List.getElem?_eq_getElem (by omega)⟩
         have hlt2:live.getD t2 false=bt:=by rw[List.getD_eq_getElem?_getD,hbt];rfl
         obtain⟨oa',n',c',hv',_,_,_,hgetv⟩:=id (hslV.mv (Mv.ah eg7));cases hv';obtain⟨b3,o3,cs3,ha3,_,hrow3,rfl⟩:=hgetv t2 bt hbt
         iterate 2 refine aY ?_
         refine xp rfl (bK rfl rfl t2 rfl ha3) ?_;refine xp rfl (aE rfl (hrow3 0 _ rfl)) ?_;refine aa ?_;refine jX (fun hb=>?_) (fun hb=>?_)
         · have hb':bt=false:=by simpa using hb
           refine aa ?_;refine xo rfl (ji [_]) ?_;rintro _ _ ⟨rfl,rfl⟩;refine xo rfl (oS rfl rfl hlo2 rfl rfl) ?_;rintro v8 g8 ⟨ho8,hx8,hx8',hv8⟩;have ff:=fin v8 g8 (-2) ho8 hx8 (si (.inr (by show live.getD t2 false=false;rw[hlt2,hb']))).symm;obtain⟨v8a,v8c,rfl,_⟩:=ho8.open;refine aa ?_;exact ih3 (j+1,_) ff
         · have hb':bt=true:=by simpa using hb
           obtain⟨c2,hc2⟩:∃c2,cls[t2]? =some c2:=⟨_,List.getElem?_eq_getElem (by omega)⟩
           have hgd2:cls.getD t2 0=c2:=by rw[List.getD_eq_getElem?_getD,hc2];rfl
           obtain⟨gg2,c42,hv42,hgb2,hglt2,hcell2,hfz2,hset2⟩:=ho7.at hc2;rw[hcl] at hv42;have hla2:la=some ⟨gg2,0,none⟩:=by cases hv42;rfl
           refine cU ?_
           iterate 3 refine aY ?_
           refine xp rfl (bK rfl rfl t2 rfl hla2) ?_;refine xp rfl (aE rfl hcell2) ?_;refine xo rfl (ji [_]) ?_;rintro _ _ ⟨rfl,rfl⟩;refine xo rfl (oS rfl rfl hlo2 rfl rfl) ?_;rintro v8 g8 ⟨ho8,hx8,hx8',hv8⟩
           have ff:=fin v8 g8 c2 ho8 hx8 (by
            rw[yd (by
             rintro(e|e)
             · exact hg' e
             · rw[Int.toNat_natCast,hlt2,hb'] at e;cases e),Int.toNat_natCast,hgd2])
           obtain⟨v8a,v8c,rfl,_⟩:=ho8.open;refine aa ?_;exact ih3 (j+1,_) ff
     · obtain rfl:j=256:=by omega
       have hkey:c::(r.v.take 256).map (bG live cls)=dz d live cls k:=by unfold dz;rw[hgd,hrow,List.take_of_length_le (by rw[r.len];exact Nat.le_refl _)]
       have hkb:=uk (d:=d) (live:=live) hcb k;have hkl:(dz d live cls k).length<=1000000:=by rw[<-hkey,hlen7];decide
       rw[hkey] at hl7;generalize hkk:dz d live cls k=key at *;refine aa ?_;refine xo rfl (bz rfl (oE (O:=fun _=>False) (htens.ah eg7) (aT.read (h1:=fun _=>rfl) hl7 (fun _ _ k=>k)) hkl hkb)) ?_;rintro _ g8 ⟨rfl,e8⟩;have e38:ak g3 g8:=e7.trans e8;have eg8:ak g g8:=e3.trans e38;have mp8:=hmp.ext e38 (fun k=>k);have haf8:=aT.ah haf e38
       have hk0:(after++List.replicate (d.next.length-k) (0:Int))[k]? =some 0:=by
        rw[List.getElem?_append_right (by omega),List.getElem?_replicate,if_pos (by omega)]
       have hl0:(after++List.replicate (d.next.length-k) (0:Int)).length=d.next.length:=by simp;omega
       have hsetA:∀y:Int,(after++List.replicate (d.next.length-k) (0:Int)).set k y=(after++[y])++List.replicate (d.next.length-(k+1)) 0:=fun y=>by
        rw[List.set_append_right _ _ (by omega),hal,Nat.sub_self,show d.next.length-k=(d.next.length-(k+1))+1 by omega,List.replicate_succ,List.set_cons_zero];simp
       have hz12:=e1'.size
       have fin2:∀(gA gB:af) (seen':List (List Int)) (y:Int),ak g gA->dG Value.string (Value.int .i64) gA g.size (eY 0 seen')->aT (Value.int .i64) gB g1.size 3 (.slice (some ⟨g1.size,0,none⟩) d.next.length d.next.length) ((after++List.replicate (d.next.length-k) (0:Int)).set k y)->gB=bY gA ⟨g1.size,0+k*1,none⟩ (.int .i64 y)->aK d live cls m (k+1) seen' (after++[y])=ps->seen'.length<=k+1->ak g gB/\dG Value.string (Value.int .i64) gB g.size (eY 0 seen')/\aT (Value.int .i64) gB g1.size 3 (.slice (some ⟨g1.size,0,none⟩) d.next.length d.next.length) ((after++[y])++List.replicate (d.next.length-(k+1)) 0)/\(k+1<=d.next.length/\(after++[y]).length=k+1/\seen'.length<=k+1)/\aK d live cls (d.next.length-(k+1)) (k+1) seen' (after++[y])=ps:=by
        rintro gA gB seen' y eA mA hB hgB hcp hsl';have xB:Ext (fun b=>b=g1.size) gA gB:=by rw[hgB];exact Ext.bY _ _ _ rfl
        refine⟨ak.only eA xB hz12,mA.ext xB (by show ¬_=_;omega),?_,⟨hkN,by simp[hal],hsl'⟩,?_⟩
        · rw[<-hsetA];exact hB
        · rw[show d.next.length-(k+1)=m by omega];exact hcp
       refine aa ?_;refine xp rfl (av.qX (z:=.int .i64 0) gZ.str underlying95 underlying9 (by kernel_rfl) rfl rfl rfl mp8) ?_;rw[iY]
       rcases hfind:iy 0 seen key with _|i0
       · rw[hfind] at hcon2;simp only at hcon2;have hnone:jh (bs (eG key)) (eY 0 seen)=none:=by rw[iY,hfind];rfl
         refine aa ?_;refine n6 rfl (by simp) ?_;refine aa ?_;refine xp rfl (av.xK underlying95 rfl (mp8)) ?_;refine bN rfl (aL.mapUpdate (v:=((eY 0 seen).length:Int)) gZ.str underlying95 underlying9 rfl rfl rfl rfl rfl mp8 hnone) ?_;rintro _ g9 ⟨rfl,mp9,x9,z9⟩;have mp9:dG Value.string (Value.int .i64) g9 g.size (eY 0 (seen++[key])):=by rw[qH,Nat.zero_add,<-ot seen 0];exact mp9
         have hsz8:=eg8.size;have e9:ak g g9:=ak.only eg8 x9 (Nat.le_refl _);have haf9:aT (Value.int .i64) g9 g1.size 3 (.slice (some ⟨g1.size,0,none⟩) d.next.length d.next.length) (after++List.replicate (d.next.length-k) (0:Int)):=aj.ext x9 haf8 (fun b hb (e:b=g.size)=>by have:=(aj.lt haf8 hb).1;omega);obtain⟨gg3,c3,hv3,_,_,hcell3,hfz3,hset3⟩:=haf9.at hk0;rw[hl0] at hv3;cases hv3;have hasc:jh (bs (eG key)) (eY 0 (seen++[key]))=some ((seen.length:Nat):Int):=by rw[iY,rR seen 0 key hfind,Nat.zero_add];rfl
         refine aa ?_;refine xp rfl (av.lookup (z:=.int .i64 0) gZ.str underlying95 underlying9 (by kernel_rfl) rfl rfl rfl mp9) ?_;rw[hasc,Option.map_some,Option.getD_some];refine xp rfl (bK rfl rfl k rfl rfl) ?_;refine bN rfl (aI H.uf rfl rfl rfl hcell3 hfz3) ?_;rintro _ g10 ⟨rfl,hg10⟩;have hg10:g10=bY g9 ⟨g1.size,0+k*1,none⟩ (.int .i64 ((seen.length:Nat):Int)):=hg10;have hB:=hset3 ((seen.length:Nat):Int);rw[<-hg10] at hB;refine aa ?_;exact ih2 (k+1,seen++[key],after++[((seen.length:Nat):Int)]) (fin2 g9 g10 _ _ e9 mp9 hB hg10 hcon2 (by simp;omega))
       · rw[hfind] at hcon2;simp only at hcon2;refine aa ?_;refine oe rfl (by simp) ?_;obtain⟨gg3,c3,hv3,_,_,hcell3,hfz3,hset3⟩:=haf8.at hk0;rw[hl0] at hv3;cases hv3;have hasc:jh (bs (eG key)) (eY 0 seen)=some ((i0:Nat):Int):=by rw[iY,hfind];rfl
         refine aa ?_;refine xp rfl (av.lookup (z:=.int .i64 0) gZ.str underlying95 underlying9 (by kernel_rfl) rfl rfl rfl mp8) ?_;rw[hasc,Option.map_some,Option.getD_some];refine xp rfl (bK rfl rfl k rfl rfl) ?_;refine bN rfl (aI H.uf rfl rfl rfl hcell3 hfz3) ?_;rintro _ g10 ⟨rfl,hg10⟩;have hg10:g10=bY g8 ⟨g1.size,0+k*1,none⟩ (.int .i64 ((i0:Nat):Int)):=hg10;have hB:=hset3 ((i0:Nat):Int);rw[<-hg10] at hB;refine aa ?_;exact ih2 (k+1,seen,after++[((i0:Nat):Int)]) (fin2 g8 g10 _ _ eg8 mp8 hB hg10 hcon2 (Nat.le_succ_of_le hsl))
   · obtain rfl:k=d.next.length:=by omega
     rw[Nat.sub_self,List.replicate_zero,List.append_nil] at haf;rw[Nat.sub_self,aK] at hcon2;subst hcon2;dsimp only at hcon hmore hend;have hm:=hend.size;have hsl':(eY 0 seen).length=seen.length:=ot seen 0
     have ha':aT (Value.int .i64) g3 h.size 3 (.slice (some ⟨g1.size,0,none⟩) d.next.length d.next.length) after:=sG (show aj g3 g1.size 3 1 _ after.length (after.map (Value.int .i64)) from haf) (fun b hb=>by
      cases hb;have:=eg.size;have:=e1'.size
      show h.size<=g1.size
      omega)
     refine aa ?_;refine xp rfl (av.xK underlying95 rfl (hmp)) ?_;rw[hsl'];refine aa ?_;refine bF (fun heq=>?_) (fun heq=>?_)
     · rw[if_pos (by omega)] at hcon;refine aa ?_;refine bU ?_;exact⟨_,rfl,by rw[<-hcon];exact ha',eg3⟩
     · rw[if_neg (by omega)] at hcon;refine aa ?_;refine xp rfl (av.xK underlying95 rfl (hmp)) ?_;rw[hsl'];refine aa ?_;exact ih (n,seen.length,_,after) ⟨eg3,ha',hal,fun x hx=>by have:=hend.bound x hx;omega,⟨by show seen.length<=_;omega,hend.nums,by show _<=n+seen.length;omega⟩,hcon⟩
end
end Go.Proofs.YtbbjkiigpdjaaaaDoor
namespace Go.Proofs.YtbbjkiigpdjaaaaDoor
open Go Go.Lw
set_option maxRecDepth 20000
section
variable {v3:Value}{n:Nat}
def iO (cls:List Int):Nat->List Nat->List (Int×Int)
  |_,[]=>[]
  |i,x::r=>(cls.getD x 0,(i:Int))::iO cls (i+1) r
theorem qI (cls:List Int):∀(ls:List Nat) (i:Nat) (l:Nat),iO cls i (ls++[l])=iO cls i ls++[(cls.getD l 0,((i+ls.length:Nat):Int))]
  | [],i,l=>by simp[iO]
  |x::r,i,l=>by
    simp only[List.cons_append,iO];rw[qI cls r (i+1) l,List.length_cons,show i+1+r.length=i+(r.length+1) by omega]
theorem oM (cls:List Int):∀(ls:List Nat) (i:Nat) (c:Int),jh c (iO cls i ls)=(eP cls i ls c).map fun j=>(j:Int)
  | [],i,c=>rfl
  |x::r,i,c=>by
    rw[iO,jh,eP]
    by_cases h:c=cls.getD x 0
    · rw[if_pos h,if_pos h];rfl
    · rw[if_neg h,if_neg h];exact oM cls r (i+1) c
structure cR (h0 h:af) (cls:List Int) (db mb:Nat) (vo vn vr:Value) (of:List Nat) (next:List Row) (rule:List Int):Prop where
  ext:ak h0 h
  dblk:aB h db 66 [vn,vr]
  nx:nW 256 bu h h0.size 68 vn next
  ru:aT (Value.int .i64) h h0.size 3 vr rule
  ol:aT b7 h h0.size 3 vo of
  mp:dG (Value.int .i64) (Value.int .i64) h mb (iO cls 0 of)
  ne:∀b,vo.ownBlock=some b->vr.ownBlock≠some b
  dge:h0.size<=db
  mge:h0.size<=mb
section
variable {h0 h:af}{cls:List Int}{db mb:Nat}{vo vn vr:Value}{of:List Nat}{next:List Row}{rule:List Int}
theorem cR.qh (k:cR h0 h cls db mb vo vn vr of next rule):∀b,vn.ownBlock=some b->aW h b 68:=fun _ hb=>aj.ty k.nx hb
theorem cR.pY (k:cR h0 h cls db mb vo vn vr of next rule):∀b,vr.ownBlock=some b->aW h b 3:=fun _ hb=>aj.ty k.ru hb
theorem cR.Eg (k:cR h0 h cls db mb vo vn vr of next rule):∀b,vo.ownBlock=some b->aW h b 3:=fun _ hb=>aj.ty k.ol hb
theorem cR.ah {h':af}(k:cR h0 h cls db mb vo vn vr of next rule) (e:ak h h'):cR h0 h' cls db mb vo vn vr of next rule :=
  ⟨k.ext.trans e,k.dblk.ah e,nW.ah k.nx e,aT.ah k.ru e,aT.ah k.ol e,k.mp.ext e (fun k=>k),k.ne,k.dge,k.mge⟩
theorem cR.put {h':af}{x:Nat}(k:cR h0 h cls db mb vo vn vr of next rule) (e:Ext (fun b=>b=x) h h') (hx:aW h x 68) (hn:vn.ownBlock≠some x) (hge:h0.size<=x):cR h0 h' cls db mb vo vn vr of next rule:=by
  have hd:¬db=x:=k.dblk.ty.ne hx (by decide);have hm:¬mb=x:=k.mp.ne hx;exact⟨ak.only k.ext e hge,k.dblk.ext e hd,aj.ext e k.nx (fun b hb hbx=>hn (by subst hbx;exact hb)),aj.ext e k.ru (fun b hb=>(k.pY b hb).ne hx (by decide)),aj.ext e k.ol (fun b hb=>(k.Eg b hb).ne hx (by decide)),k.mp.ext e hm,k.ne,k.dge,k.mge⟩
theorem cR.zf {g3 g4:af}{r:Row}(k:cR h0 h cls db mb vo vn vr of next rule) (hn:n=next.length) (ho:aj g3 h0.size 68 256 v3 (n+1) (next.flatMap bu++bu r)) (hx:Ext (bw vn.ownBlock) h g3) (hd:aB g4 db 66 [v3,vr]) (x4:Ext (fun b=>b=db) g3 g4) :
    cR h0 g4 cls db mb vo v3 vr of (next++[r]) rule:=by
  have nne:∀{b:Nat}{t:TypeId},aW h b t->68≠t->¬bw vn.ownBlock b:=fun kt ht e=>(k.qh _ e.symm).ne kt ht rfl
  have d3:=k.dblk.ext hx (nne k.dblk.ty (by decide));have l7:∀{b:Nat}{t:TypeId},aW g3 b t->66≠t->¬b=db:=fun kt ht e=>by subst e;exact d3.ty.ne kt ht rfl
  have mne:¬bw vn.ownBlock mb:=fun e=>k.mp.ne (k.qh _ e.symm) rfl
  have hm3:=k.mp.ext hx mne;have ru3:=aj.ext hx k.ru (fun b hb=>nne (k.pY b hb) (by decide));have of3:=aj.ext hx k.ol (fun b hb=>nne (k.Eg b hb) (by decide));refine⟨⟨by have:=k.ext.size;have:=hx.size;have:=x4.size;omega,fun b hb kk=>?_⟩,hd,?_,aj.ext x4 ru3 (fun b hb=>l7 (aj.ty ru3 hb) (by decide)),aj.ext x4 of3 (fun b hb=>l7 (aj.ty of3 hb) (by decide)),hm3.ext x4 (hm3.ne d3.ty),k.ne,k.dge,k.mge⟩
  · rw[x4.block b (by have:=k.ext.size;have:=hx.size;omega) (by have:=k.dge;omega),hx.block b (by have:=k.ext.size;omega) (fun e=>by have:=(aj.lt k.nx e.symm).1;omega)];exact k.ext.block b hb kk
  · exact aj.ext x4 (nW.of ho hn rfl) (fun b hb=>l7 (aj.ty ho hb) (by decide))
theorem cR.ze {g3 g4:af}{x:Int}(k:cR h0 h cls db mb vo vn vr of next rule) (hn:n=rule.length) (ho:aj g3 h0.size 3 1 v3 (n+1) (rule.map (Value.int .i64)++[.int .i64 x])) (hx:Ext (bw vr.ownBlock) h g3) (hv:∀b,v3.ownBlock=some b->vr.ownBlock=some b\/h.size<=b) (hd:aB g4 db 66 [vn,v3]) (x4:Ext (fun b=>b=db) g3 g4) :
    cR h0 g4 cls db mb vo vn v3 of next (rule++[x]):=by
  have nne:∀{b:Nat}{t:TypeId},aW h b t->3≠t->¬bw vr.ownBlock b:=fun kt ht e=>(k.pY _ e.symm).ne kt ht rfl
  have d3:=k.dblk.ext hx (nne k.dblk.ty (by decide));have l7:∀{b:Nat}{t:TypeId},aW g3 b t->66≠t->¬b=db:=fun kt ht e=>by subst e;exact d3.ty.ne kt ht rfl
  have mne:¬bw vr.ownBlock mb:=fun e=>k.mp.ne (k.pY _ e.symm) rfl
  have hm3:=k.mp.ext hx mne;have nx3:=aj.ext hx k.nx (fun b hb=>nne (k.qh b hb) (by decide));have of3:=aj.ext hx k.ol (fun b hb e=>k.ne b hb e.symm);refine⟨⟨by have:=k.ext.size;have:=hx.size;have:=x4.size;omega,fun b hb kk=>?_⟩,hd,aj.ext x4 nx3 (fun b hb=>l7 (aj.ty nx3 hb) (by decide)),?_,aj.ext x4 of3 (fun b hb=>l7 (aj.ty of3 hb) (by decide)),hm3.ext x4 (hm3.ne d3.ty),fun b hb e=>?_,k.dge,k.mge⟩
  · rw[x4.block b (by have:=k.ext.size;have:=hx.size;omega) (by have:=k.dge;omega),hx.block b (by have:=k.ext.size;omega) (fun e=>by have:=(aj.lt k.ru e.symm).1;omega)];exact k.ext.block b hb kk
  · exact aj.ext x4 (aT.of (ys:=[x]) ho hn rfl rfl) (fun b hb=>l7 (aj.ty ho hb) (by decide))
  · rcases hv b e with e|e
    · exact k.ne b hb e
    · have:=(k.Eg b hb).lt;omega
theorem cR.more {g1 g2:af}{t:Nat}(k:cR h0 h cls db mb vo vn vr of next rule) (x1:Ext (fun b=>b=mb) h g1) (hm:dG (Value.int .i64) (Value.int .i64) g1 mb (iO cls 0 (of++[t]))) (hn:n=of.length) (ho:aj g2 h0.size 3 1 v3 (n+1) (of.map b7++[b7 t])) (hx:Ext (bw vo.ownBlock) g1 g2) (hv:∀b,v3.ownBlock=some b->vo.ownBlock=some b\/g1.size<=b) :
    cR h0 g2 cls db mb v3 vn vr (of++[t]) next rule:=by
  have mne:∀{b:Nat}{t:TypeId},aW h b t->¬b=mb:=fun kt e=>k.mp.ne kt e.symm
  have d1:=k.dblk.ext x1 (mne k.dblk.ty);have nx1:=aj.ext x1 k.nx (fun b hb=>mne (k.qh b hb));have ru1:=aj.ext x1 k.ru (fun b hb=>mne (k.pY b hb));have of1:=aj.ext x1 k.ol (fun b hb=>mne (k.Eg b hb));have one:∀{b:Nat}{t:TypeId},aW g1 b t->3≠t->¬bw vo.ownBlock b:=fun kt ht e=>(show aW g1 _ 3 from aj.ty of1 e.symm).ne kt ht rfl
  refine⟨⟨by have:=k.ext.size;have:=hx.size;have:=x1.size;omega,fun b hb kk=>?_⟩,d1.ext hx (one d1.ty (by decide)),aj.ext hx nx1 (fun b hb=>one (aj.ty nx1 hb) (by decide)),aj.ext hx ru1 (fun b hb e=>k.ne b e.symm hb),aT.of (ys:=[t]) ho hn rfl rfl,hm.ext hx (fun e=>hm.ne (aj.ty of1 e.symm) rfl),fun b hb e=>?_,k.dge,k.mge⟩
  · rw[hx.block b (by have:=k.ext.size;have:=x1.size;omega) (fun e=>by have:=(aj.lt k.ol e.symm).1;omega),x1.block b (by have:=k.ext.size;omega) (by have:=k.mge;omega)];exact k.ext.block b hb kk
  · rcases hv b hb with e'|e'
    · exact k.ne b e' e
    · have:=(show aW g1 _ 3 from aj.ty ru1 e).lt;omega
end
end
end Go.Proofs.YtbbjkiigpdjaaaaDoor
namespace Go.Proofs.YtbbjkiigpdjaaaaDoor
open Go.Proofs.Tryd
open Go Go.Lw
set_option maxRecDepth 20000 set_option maxHeartbeats 4000000
section
variable {h:af}{db:Nat}{d:aJ}
theorem tJ (d:aJ):∀(n:Nat) (out:List Bool),(nE d n out).length=out.length
 | 0,_=>rfl
 |n+1,out=>by
  rw[nE];split
  · rw[tJ d n,eN]
  · rw[eN]
theorem zA (d:aJ):(ax d).length=d.next.length:=by rw[ax,tJ];simp
theorem r9 (d:aJ) (live:List Bool):∀(n many:Nat) (cls:List Int),cls.length=d.next.length->(iJ d live n many cls).length=d.next.length
 | 0,_,_,h=>h
 |n+1,many,cls,h=>by
  rw[iJ];split
  · exact(dc d live cls).len
  · exact r9 d live n _ _ (dc d live cls).len
theorem ya (d:aJ) (live:List Bool) (h:d.rule.length=d.next.length):(aN d live).length=d.next.length:=r9 d live _ _ _ h
theorem Bm:an Tryd.prog 9 #[.pointer none] h (b8 fun r h'=>gW h' r (fP ⟨[],[]⟩)/\ak h h'):=by
 refine cV ?_;refine aa ?_;refine xo rfl (bz rfl (fR (d:=⟨[],[]⟩) (.inl ⟨rfl,rfl⟩))) ?_;rintro _ h0 ⟨rfl,hh0⟩;subst hh0;refine aa ?_;refine n6 rfl (by simp) ?_;refine aa ?_;refine bU ?_;exact⟨_,rfl,.inl ⟨rfl,rfl⟩,Ext.refl _ _⟩
def yo (h:af) (O:Nat->Prop) (db:Nat) (d:aJ):Prop :=
 ∃vn vr,¬O db/\aB h db 66 [vn,vr]/\aP yS h O vn d.next/\aP (.int .i64) h O vr d.rule
theorem yo.rd {O:Nat->Prop}(k:yo h O db d):ja h db d:=by
 obtain⟨vn,vr,ho,hk,h1,h2⟩:=k;exact⟨vn,vr,hk,cK h1 (fun _ k=>k.elim),cK h2 (fun _ k=>k.elim)⟩
theorem Bn (htens:lI h) (k:ja h db d) (hok:d.Ok) (hd0:0<d.next.length) :
 an Tryd.prog 9 #[.pointer (some ⟨db,0,none⟩)] h (b8 fun r h'=>(∃b,r= .pointer (some ⟨b,0,none⟩)/\yo h' (fun g=>g<h.size) b (fP d))/\ak h h'):=by
 have hlen:=hok.len;have hsize:=hok.size;generalize hres:fP d=res;refine cV ?_;refine aa ?_;refine xo rfl (bz rfl (rX k)) ?_;rintro _ h0 ⟨rfl,hh0⟩;subst hh0;refine aa ?_;refine bF (fun hz=>?_) (fun hz=>?_)
 · refine aa ?_;refine bU ?_;exfalso;omega
 · rw[fP,if_neg hz] at hres;have hll:=zA d;have hcl:=ya d (ax d) hlen;refine aa ?_;refine xo rfl (bz rfl (xJ k hok)) ?_;rintro w3 h1 ⟨ho1,e1⟩;generalize ax d=live at *;obtain⟨la,lc,rfl,_⟩:=(show aj h1 h0.size 4 1 w3 live.length (live.map Value.bool) from ho1).open;refine aa ?_;refine xo rfl (bz rfl (sZ (htens.ah e1) (k.ah e1) hok (aT.read (O:=fun _=>False) (h1:=fun _=>rfl) ho1 (fun _ _ k=>k)) hll)) ?_;rintro w4 h2 ⟨ho2,e2⟩;generalize aN d live=cls at *;obtain⟨ca,cc,rfl,_⟩:=(show aj h2 h1.size 3 1 w4 cls.length (cls.map (Value.int .i64)) from ho2).open;have ho1:=aT.ah ho1 e2;have k2:=(k.ah e1).ah e2;have hsV:aP .bool h2 (fun _=>False) (.slice la live.length lc) live:=aT.read (h1:=fun _=>rfl) ho1 (fun _ _ k=>k);have hsC:aP (.int .i64) h2 (fun _=>False) (.slice ca cls.length cc) cls:=aT.read (h1:=fun _=>rfl) ho2 (fun _ _ k=>k);rw[hll] at hsV;rw[hcl] at hsC;rw[hll,hcl];obtain⟨c0,hc0⟩:∃c0,cls[0]? =some c0:=⟨_,List.getElem?_eq_getElem (by omega)⟩
   have hcd0:cls.getD 0 0=c0:=by rw[List.getD_eq_getElem?_getD,hc0];rfl
   refine aa ?_;refine xp rfl (aq (H.CX ) rfl) ?_;refine xo rfl (wY) ?_;rintro _ h3 ⟨rfl,kd3,e3,z3⟩;refine aa ?_;refine xo rfl (kX (ek:=Value.int .i64) (ev:=Value.int .i64)) ?_;rintro _ h4 ⟨rfl,hm4,e4,z4⟩;have kd3:aB h3 h2.size 66 [.slice none 0 0,.slice none 0 0]:=kd3;have e34:=e3.trans e4;obtain⟨oa',n',c',hv',_,_,_,hgetc⟩:=id (hsC.mv (Mv.ah e34));cases hv';obtain⟨b3,o3,cs3,ha3,_,hrow3,rfl⟩:=hgetc 0 c0 hc0;refine aY ?_;refine xp rfl (bK rfl rfl 0 rfl ha3) ?_;refine xp rfl (aE rfl (hrow3 0 _ rfl)) ?_;refine bN rfl (sH (v:=(0:Int)) (gZ.int .i64) underlying67 underlying3 rfl rfl rfl rfl rfl hm4 (rfl:jh c0 []=none)) ?_;rintro _ h5 ⟨rfl,hm5,x5,z5⟩;have hm5:dG (Value.int .i64) (Value.int .i64) h5 h3.size (iO cls 0 [0]):=by rw[iO,hcd0];exact hm5
   have hz3:=e3.size;have e25:ak h2 h5:=ak.only e34 x5 hz3;have kd5:aB h5 h2.size 66 [.slice none 0 0,.slice none 0 0]:=(kd3.ah e4).ext x5 (by show ¬_=_;omega);refine aa ?_;refine xo rfl (ji [_]) ?_;rintro _ _ ⟨rfl,rfl⟩;refine aa ?_;have e56:ak h5 (h5.push (.cells #[.int .i64 0] 3)):=Ext.push _ _ _;have ol6:aT b7 (h5.push (.cells #[.int .i64 0] 3)) h2.size 3 (.slice (some ⟨h5.size,0,none⟩) 1 1) [0]:=kW b7 h5 3 [0] 1 rfl (by decide) h2.size e25.size rfl;generalize h5.push (.cells #[.int .i64 0] 3)=h6 at *
   have mk6:cR h2 h6 cls h2.size h3.size (.slice (some ⟨h5.size,0,none⟩) 1 1) (.slice none 0 0) (.slice none 0 0) [0] [] [] :=
    ⟨e25.trans e56,kd5.ah e56,nW.nil _ _ _ _ _,aT.nil _ _ _ _,ol6,hm5.ext e56 (fun k=>k),fun b _ hb=>(by cases hb),Nat.le_refl _,hz3⟩
   refine fG (σ:=Nat×Value) (fun q=>[(7,q.2),(8,.int .i64 (q.1:Nat))]) (fun q h'=>∃vn vr of next rule,cR h2 h' cls h2.size h3.size q.2 vn vr of next rule/\q.1<=of.length/\lK d.next.length of/\(next.length=q.1/\rule.length=q.1)/\mu d live cls (d.next.length+1-q.1) q.1 of next rule=res) (fun q=>d.next.length+1-q.1) ((0,.slice (some ⟨h5.size,0,none⟩) 1 1)) ⟨_,_,[0],[],[],mk6,Nat.zero_le _,⟨by simp,fun x hx=>by simp at hx;omega⟩,⟨rfl,rfl⟩,hres⟩ rfl ?_;rintro⟨i,vl⟩ g ⟨vn,vr,of,next,rule,mk,hi,hok2,⟨hnl,hrl⟩,hcon⟩ ih
   try dsimp only
   dsimp only at mk hi hnl hrl hcon;have hofl:=hok2.len;obtain⟨oa,oc,rfl,_⟩:=(show aj g h2.size 3 1 vl of.length (of.map b7) from mk.ol).open;have mkg:=mk;refine aa ?_;refine bF (fun hlt=>?_) (fun hlt=>?_)
   · have hil:i<of.length:=by omega
     obtain⟨kk,hcur⟩:∃kk,of[i]? =some kk:=⟨_,List.getElem?_eq_getElem hil⟩
     have hkN:=hok2.lt kk (List.mem_of_getElem? hcur);obtain⟨n,hnn⟩:∃n,d.next.length+1-i=n+1:=⟨d.next.length-i,by omega⟩
     rw[hnn,mu,hcur] at hcon;simp only at hcon;obtain⟨r,hr⟩:∃r,d.next[kk]? =some r:=⟨_,List.getElem?_eq_getElem hkN⟩
     have hrow:d.row kk=r.v:=by unfold aJ.row;rw[hr]
     rw[hrow] at hcon;generalize htgt:bQ live cls r.v of []=tgt at hcon;refine aa ?_;refine xo rfl (jf) ?_;rintro _ g1 ⟨rfl,kz,ez,zz⟩;have kz:aB g1 g.size 68 (([]:List Int).map (Value.int .i64)++List.replicate (256-0) (Value.int .i64 0)):=kz;have mk1:=mk.ah ez;have hvz:vn.ownBlock≠some g.size:=fun e=>by have:=(mk.qh _ e).lt;omega
     obtain⟨vn0,vr0,kd,⟨na,nn,nc,rfl,hnl0,hnc,hnm,hgetn⟩,hsR⟩:=id (k2.ah mk1.ext);subst hnl0;obtain⟨b1,o1,cs1,ha1,_,hrow1,rfl⟩:=hgetn kk r hr;obtain⟨gg,c4,hv4,_,_,hcell,_,_⟩:=mk1.ol.at hcur;have hoa:oa=some ⟨gg,0,none⟩:=by cases hv4;rfl
     refine aa ?_;refine me rfl (aE rfl (kd.cell (i:=0) rfl)) ?_
     iterate 2 refine CH ?_
     refine me rfl (bK rfl rfl i rfl hoa) ?_;refine me rfl (aE rfl hcell) ?_;refine me rfl (bK rfl rfl kk rfl ha1) ?_;refine me rfl (gj rfl hrow1) ?_;refine aa ?_;refine fG (σ:=Nat×Value) (fun q=>[(7,q.2),(45,.int .i64 (q.1:Nat))]) (fun q h'=>∃of' row,cR h2 h' cls h2.size h3.size q.2 vn vr of' next rule/\(q.1<=256/\row.length=q.1)/\aB h' g.size 68 (row.map (Value.int .i64)++List.replicate (256-q.1) (Value.int .i64 0))/\of'[i]? =some kk/\lK d.next.length of'/\bQ live cls (r.v.drop q.1) of' row=tgt) (fun q=>256-q.1) ((0,.slice oa of.length oc)) ⟨of,[],mk1,⟨Nat.zero_le _,rfl⟩,kz,hcur,hok2,htgt⟩ rfl ?_;rintro⟨b,vl⟩ g2 ⟨of,row,mk,⟨hb,hrlen⟩,kz,hcur,hok2,hrow⟩ ih2
     try dsimp only
     dsimp only at mk hb hrlen kz hrow;have hofl:=hok2.len;obtain⟨oa,oc,rfl,_⟩:=(show aj g2 h2.size 3 1 vl of.length (of.map b7) from mk.ol).open;refine aa ?_;refine bF (fun hb256=>?_) (fun hb256=>?_)
     · have hb2:b<256:=by omega
       obtain⟨t,ht⟩:∃t,r.v[b]? =some t:=⟨_,List.getElem?_eq_getElem (by rw[r.len];exact hb2)⟩
       have htm:=hok.to r (List.mem_of_getElem? hr) t (List.mem_of_getElem? ht);have hdrop:r.v.drop b=t::r.v.drop (b+1):=by rw[List.drop_eq_getElem_cons (by rw[r.len];exact hb2),(List.getElem?_eq_some_iff.1 ht).2]
       rw[hdrop,bQ] at hrow;have hso:=jt (live:=live) (cls:=cls) (t:=t) hok2 htm.2;have hsg:=(qU (live:=live) (cls:=cls) (of:=of) (t:=t)).2 i kk hcur;have hcells:(row.map (Value.int .i64)++List.replicate (256-b) (Value.int .i64 0)).length=256:=by simp[hrlen];omega
       have hset:∀to:Int,(row.map (Value.int .i64)++List.replicate (256-b) (Value.int .i64 0)).set (0+b*1) (.int .i64 to)=(row++[to]).map (Value.int .i64)++List.replicate (256-(b+1)) (Value.int .i64 0):=fun to=>by
        rw[Nat.zero_add,Nat.mul_one,List.set_append_right _ _ (by simp;omega),show 256-b=(256-(b+1))+1 by omega,List.replicate_succ];have:b-(row.map (Value.int .i64)).length=0:=by simp;omega
        rw[this,List.set_cons_zero];simp
       have hblt:0+b*1<(row.map (Value.int .i64)++List.replicate (256-b) (Value.int .i64 0)).length:=by rw[hcells];omega
       have hzge:h2.size<=g.size:=mkg.ext.size
       have fin:∀(gA gB:af) (vA:Value) (ofA:List Nat) (to:Int),cR h2 gA cls h2.size h3.size vA vn vr ofA next rule->aB gA g.size 68 (row.map (Value.int .i64)++List.replicate (256-b) (Value.int .i64 0))->gB=bY gA ⟨g.size,0+b*1,none⟩ (.int .i64 to)->aV live cls of t=(ofA,to)->∃of' row,cR h2 gB cls h2.size h3.size vA vn vr of' next rule/\(b+1<=256/\row.length=b+1)/\aB gB g.size 68 (row.map (Value.int .i64)++List.replicate (256-(b+1)) (Value.int .i64 0))/\of'[i]? =some kk/\lK d.next.length of'/\bQ live cls (r.v.drop (b+1)) of' row=tgt:=by
        rintro gA gB vA ofA to mA kA hgB hst;have k6:=kA.set (0+b*1) (.int .i64 to);rw[<-hgB,hset] at k6;have x6:Ext (fun y=>y=g.size) gA gB:=by rw[hgB];exact Ext.bY _ _ _ rfl
        rw[hst] at hso hsg hrow;exact⟨ofA,row++[to],mA.put x6 kA.ty hvz hzge,⟨hb2,by simp[hrlen]⟩,k6,hsg,hso,hrow⟩
       refine aa ?_;refine xp rfl (av.rI underlying68 H.uf H.BQ rfl rfl b rfl hb2 (show (bu r).toArray[b]? =some (Value.int .i64 t) by simp[bu,ht])) ?_
       iterate 2 refine aY ?_
       refine eW ?_
       iterate 2 refine bT ?_
       refine cU ?_
       iterate 3 refine aY ?_
       refine ie 51 (fun hg=>?_) (fun hg=>?_)
       · have hg':=of_decide_eq_true hg;refine aa ?_;refine n6 rfl (by simp) ?_;refine bT ?_;refine cU ?_;refine aY ?_;refine xp rfl (wZ rfl rfl b rfl (by omega)) ?_;refine bN rfl (aI H.uf rfl rfl rfl (kz.cell (List.getElem?_eq_getElem hblt)) kz.nf) ?_;rintro _ g6 ⟨rfl,hg6⟩;have ff:=fin g2 g6 _ of (-1) mk kz hg6 (by rw[aV,if_pos (.inl hg')]);refine aa ?_;exact ih2 (b+1,_) ff
       · have hg':=of_decide_eq_false hg;obtain⟨t2,rfl⟩:=Int.eq_ofNat_of_zero_le (show 0<=t by omega);obtain⟨bt,hbt⟩:∃bt,live[t2]? =some bt:=⟨_,List.getElem?_eq_getElem (by omega)⟩
         have hlt2:live.getD t2 false=bt:=by rw[List.getD_eq_getElem?_getD,hbt];rfl
         obtain⟨oa',n',c',hv',_,_,_,hgetv⟩:=id (hsV.mv (Mv.ah mk.ext));cases hv';obtain⟨b3,o3,cs3,ha3,_,hrow3,rfl⟩:=hgetv t2 bt hbt
         iterate 2 refine aY ?_
         refine xp rfl (bK rfl rfl t2 rfl ha3) ?_;refine xp rfl (aE rfl (hrow3 0 _ rfl)) ?_;refine aa ?_;refine jX (fun hb=>?_) (fun hb=>?_)
         · have hb':bt=false:=by simpa using hb
           refine bT ?_;refine cU ?_;refine aY ?_;refine xp rfl (wZ rfl rfl b rfl (by omega)) ?_;refine bN rfl (aI H.uf rfl rfl rfl (kz.cell (List.getElem?_eq_getElem hblt)) kz.nf) ?_;rintro _ g6 ⟨rfl,hg6⟩;have ff:=fin g2 g6 _ of (-1) mk kz hg6 (by rw[aV,if_pos (.inr (by show live.getD t2 false=false;rw[hlt2,hb']))]);refine aa ?_;exact ih2 (b+1,_) ff
         · have hb':bt=true:=by simpa using hb
           obtain⟨c2,hc2⟩:∃c2,cls[t2]? =some c2:=⟨_,List.getElem?_eq_getElem (by omega)⟩
           have hgd2:cls.getD t2 0=c2:=by rw[List.getD_eq_getElem?_getD,hc2];rfl
           have hneg:¬(((t2:Nat):Int)<0\/live.getD ((t2:Nat):Int).toNat false=false):=by
            rintro(e|e)
            · exact hg' e
            · rw[Int.toNat_natCast,hlt2,hb'] at e;cases e
           have hstep:aV live cls of ((t2:Nat):Int)=match eP cls 0 of c2 with|some i=>(of,(i:Int))|none=>(of++[t2],(of.length:Int)):=by
            rw[aV,if_neg hneg,Int.toNat_natCast,hgd2]<;>rfl
           obtain⟨oa',n',c',hv',_,_,_,hgetc⟩:=id (hsC.mv (Mv.ah mk.ext));cases hv';obtain⟨b4,o4,cs4,ha4,_,hrow4,rfl⟩:=hgetc t2 c2 hc2
           iterate 2 refine bT ?_
           refine cU ?_
           iterate 3 refine aY ?_
           refine xp rfl (bK rfl rfl t2 rfl ha4) ?_;refine xp rfl (aE rfl (hrow4 0 _ rfl)) ?_;refine xp rfl (av.qX (z:=.int .i64 0) (gZ.int .i64) underlying67 underlying3 (by kernel_rfl) rfl rfl rfl mk.mp) ?_;rw[oM]
           rcases hfind:eP cls 0 of c2 with _|i0
           · rw[hfind] at hstep;simp only at hstep;have hnone:jh c2 (iO cls 0 of)=none:=by rw[oM,hfind];rfl
             refine aa ?_;refine n6 rfl (by simp) ?_;refine bT ?_;refine cU ?_
             iterate 3 refine aY ?_
             refine eW ?_;refine bT ?_;refine cU ?_
             iterate 3 refine aY ?_
             refine xp rfl (bK rfl rfl t2 rfl ha4) ?_;refine xp rfl (aE rfl (hrow4 0 _ rfl)) ?_;refine aa ?_;refine bN rfl (aL.mapUpdate (v:=((of.length:Nat):Int)) (gZ.int .i64) underlying67 underlying3 rfl rfl rfl rfl rfl mk.mp hnone) ?_;rintro _ g3 ⟨rfl,hm3,x3,z3'⟩;have hm3:dG (Value.int .i64) (Value.int .i64) g3 h3.size (iO cls 0 (of++[t2])):=by rw[qI,Nat.zero_add,hgd2];exact hm3
             have mne:∀{b:Nat}{t:TypeId},aW g2 b t->¬b=h3.size:=fun kt e=>mk.mp.ne kt e.symm
             have ol3:aj g3 h2.size 3 1 (.slice oa of.length oc) of.length (of.map b7):=aj.ext x3 mk.ol (fun b hb=>mne (mk.Eg b hb));have kz3:=kz.ext x3 (mne kz.ty);have hz2g:=mk.ext.size;refine aa ?_;refine xo rfl (ji [_]) ?_;rintro _ _ ⟨rfl,rfl⟩;refine xo rfl (oS rfl rfl ol3 rfl rfl) ?_;rintro v7 g4 ⟨ho4,hx4,hx4',hv4⟩;have mk4:=mk.more (t:=t2) x3 hm3 rfl ho4 hx4 hv4;have kz4:=kz3.ext hx4 (fun e=>(show aW g3 _ 3 from aj.ty ol3 e.symm).ne kz3.ty (by decide) rfl);obtain⟨v7a,v7c,rfl,_⟩:=ho4.open;refine aY ?_;refine eW ?_;refine cU ?_
             iterate 2 refine aY ?_
             refine xp rfl (wZ rfl rfl b rfl (by omega)) ?_;refine bN rfl (aI H.uf rfl rfl rfl (kz4.cell (List.getElem?_eq_getElem hblt)) kz4.nf) ?_;rintro _ g6 ⟨rfl,hg6⟩;have ff:=fin g4 g6 _ (of++[t2]) (of.length:Nat) mk4 kz4 hg6 hstep;refine aa ?_;exact ih2 (b+1,_) ff
           · rw[hfind] at hstep;simp only at hstep;refine aa ?_;refine oe rfl (by simp) ?_;refine bT ?_;refine cU ?_
             iterate 2 refine aY ?_
             refine xp rfl (wZ rfl rfl b rfl (by omega)) ?_;refine bN rfl (aI H.uf rfl rfl rfl (kz.cell (List.getElem?_eq_getElem hblt)) kz.nf) ?_;rintro _ g6 ⟨rfl,hg6⟩;have ff:=fin g2 g6 _ of (i0:Nat) mk kz hg6 hstep;refine aa ?_;exact ih2 (b+1,_) ff
     · obtain rfl:b=256:=by omega
       rw[List.drop_of_length_le (by rw[r.len];exact Nat.le_refl _),bQ] at hrow;subst hrow;simp only at hcon;have hencr:bu (dO row)=row.map (Value.int .i64):=by rw[bu,js hrlen]
       rw[Nat.sub_self,List.replicate_zero,List.append_nil,<-hencr] at kz;have hil2:i<of.length:=(List.getElem?_eq_some_iff.1 hcur).1
       have nne:∀{b:Nat}{t:TypeId},aW g2 b t->68≠t->¬(bw vn.ownBlock b\/Array.size g2<=b):=fun kt ht e=>by
        rcases e with e|e
        · exact(mk.qh _ e.symm).ne kt ht rfl
        · have:=kt.lt;omega
       have hzM:¬(bw vn.ownBlock g.size\/Array.size g2<=g.size):=by
        rintro(e|e)
        · exact hvz e.symm
        · have:=kz.lt;omega
       have hdM:=nne mk.dblk.ty (by decide);have hnx:aj g2 h2.size 68 256 vn next.length (next.flatMap bu):=mk.nx
       have hone:∀u∈bu (dO row),u.oneCell'=true:=fun u hu=>by simp[bu] at hu;obtain⟨_,_,rfl⟩:=hu;rfl
       have hg2:=mk.ext.size;refine aa ?_;refine vg 11 (fun b=>bw vn.ownBlock b\/Array.size g2<=b) (fun i=>Nat.blt i 10) ?_;refine aS 0 ?_;refine aS 1 ?_;refine aS 2 ?_;refine aS 3 ?_;refine bL 4 rfl (fun h' e=>aE rfl (e.cell hdM (mk.dblk.cell (i:=0) rfl))) ?_;refine bL 5 rfl (fun h' e=>gj rfl (e.rowAt hzM kz.row)) ?_;refine eZ 6 rfl (aL.sd (cs:=bu (dO row)) underlying64 H.Cg rfl (jA _) (by decide)) ?_;rintro _ _ ⟨rfl,rfl⟩;refine⟨fun _=>(Ext.push _ _ _),?_⟩;refine eZ 7 rfl (aL.tV underlying64 H.Cg rfl rfl hnx rfl (by simp) hone (by simp only[maxLen];omega) (by omega) hg2) ?_;rintro v3 g3 ⟨ho3,hx3,hx3',hv3⟩;refine⟨fun _=>hx3'.mono (fun _ _ k=>.inl k),?_⟩;obtain⟨a3,c3,rfl,_⟩:=ho3.open;refine BL 8 ?_;refine aS 9 ?_;refine qp 10 rfl (n8 rfl rfl ((mk.dblk.ext hx3 (fun e=>hdM (.inl e))))) ?_;rintro _ g4 ⟨rfl,k4,x4,z4⟩;refine⟨nofun,?_⟩;have mk4:=mk.zf (r:=dO row) rfl ho3 hx3 k4 x4;obtain⟨vn0,vr0,kd4,_,⟨ra,rn,rc,rfl,hrl0,hrc,hrm,hgetr⟩⟩:=id k2;obtain⟨x,hx⟩:∃x,d.rule[kk]? =some x:=⟨_,List.getElem?_eq_getElem (by omega)⟩
       have hru0:d.ru kk=x:=by unfold aJ.ru;rw[List.getD_eq_getElem?_getD,hx];rfl
       obtain⟨b5,o5,cs5,ha5,hO5,hrow5,rfl⟩:=hgetr kk x hx;obtain⟨gg5,c5,hv5,_,_,hcell5,_,_⟩:=mk4.ol.at hcur;have hoa5:oa=some ⟨gg5,0,none⟩:=by cases hv5;rfl
       have rne:∀{b:Nat}{t:TypeId},aW g4 b t->3≠t->¬(bw vr.ownBlock b\/Array.size g4<=b):=fun kt ht e=>by
        rcases e with e|e
        · exact(mk4.pY _ e.symm).ne kt ht rfl
        · have:=kt.lt;omega
       have hdM4:=rne mk4.dblk.ty (by decide);have hru:aj g4 h2.size 3 1 vr rule.length (rule.map (Value.int .i64)):=mk4.ru;have hg4s:=mk4.ext.size
       have olb:∀{b:Nat},b<h2.size->¬(bw vr.ownBlock b\/Array.size g4<=b):=fun kb e=>by
        rcases e with e|e
        · have:=(aj.lt mk4.ru e.symm).1;omega
        · omega
       have hc4:=kd4.cell (i:=1) rfl;have hd4:=olb (bI hc4);have hc5:cellAt h2 _=some (Value.int .i64 x):=hrow5 0 _ rfl;have hd5:=olb (bI hc5)
       have hd6:¬(bw vr.ownBlock gg5\/Array.size g4<=gg5):=fun e=>by
        rcases e with e|e
        · exact mk4.ne gg5 (by rw[hoa5];rfl) e.symm
        · have:=bI hcell5;simp only at this;omega
       refine lg ?_;refine vg 20 (fun b=>bw vr.ownBlock b\/Array.size g4<=b) (fun i=>Nat.blt i 19) ?_;refine aS 0 ?_;refine aS 1 ?_;refine aS 2 ?_;refine aS 3 ?_;refine bL 4 rfl (fun h' e=>aE rfl (e.cell hdM4 (mk4.dblk.cell (i:=1) rfl))) ?_;refine aS 5 ?_;refine aS 6 ?_;refine aS 7 ?_;refine bL 8 rfl (fun h' e=>aE rfl (e.cell hd4 (mk4.ext.cell (fun k=>k) hc4))) ?_;refine aS 9 ?_;refine aS 10 ?_;refine bL 11 rfl (fun h' e=>bK rfl rfl i rfl hoa5) ?_;refine bL 12 rfl (fun h' e=>aE rfl (e.cell hd6 hcell5)) ?_;refine bL 13 rfl (fun h' e=>bK rfl rfl kk rfl ha5) ?_;refine bL 14 rfl (fun h' e=>aE rfl (e.cell hd5 (mk4.ext.cell (fun k=>k) hc5))) ?_;refine eZ 15 rfl (ji [_]) ?_;rintro _ _ ⟨rfl,rfl⟩;refine⟨fun _=>by first|exact Ext.push _ _ _|assumption,?_⟩;refine eZ 16 rfl (oS rfl rfl hru rfl rfl) ?_;rintro v6 g6 ⟨ho6,hx6,hx6',hv6⟩;refine⟨fun _=>hx6'.mono (fun _ _ k=>.inl k),?_⟩;obtain⟨a6,c6,rfl,_⟩:=ho6.open;refine BL 17 ?_;refine aS 18 ?_;refine qp 19 rfl (n8 rfl rfl ((mk4.dblk.ext hx6 (fun e=>hdM4 (.inl e))))) ?_;rintro _ g7 ⟨rfl,k7,x7,z7⟩;refine⟨nofun,?_⟩;have mk7:=mk4.ze (x:=x) rfl ho6 hx6 hv6 k7 x7;refine lg ?_;refine aa ?_;exact ih (i+1,_) ⟨_,_,of,next++[dO row],rule++[x],mk7,hil2,hok2,⟨by simp[hnl],by simp[hrl]⟩,by rw[<-hru0,show d.next.length+1-(i+1)=n by omega];exact hcon⟩
   · obtain rfl:i=of.length:=by omega
     obtain⟨n,hnn⟩:∃n,d.next.length+1-of.length=n+1:=⟨d.next.length-of.length,by omega⟩
     rw[hnn,mu,List.getElem?_eq_none (Nat.le_refl _)] at hcon;simp only at hcon;refine aa ?_;refine bU ?_;have hz02:=(e1.trans e2).size;refine⟨_,rfl,⟨h2.size,rfl,?_⟩,(e1.trans e2).trans mk.ext⟩;rw[<-hcon];exact⟨vn,vr,by omega,mk.dblk,nW.read mk.nx (fun b hb k=>by omega),aT.read (h1:=fun _=>rfl) mk.ru (fun b hb k=>by omega)⟩
theorem zK (k:ja h db d) (hz:d.next.length=0) :
 an Tryd.prog 9 #[.pointer (some ⟨db,0,none⟩)] h (b8 fun r h'=>r= .pointer none/\h'=h):=by
 refine cV ?_;refine aa ?_;refine xo rfl (bz rfl (rX k)) ?_;rintro _ h0 ⟨rfl,hh0⟩;subst hh0;refine aa ?_;refine n6 rfl (by simp[hz]) ?_;refine aa ?_;refine bU ?_;exact⟨_,rfl,rfl,rfl⟩
theorem Ch (htens:lI h) (k:ja h db d) (hok:d.Ok) :
 an Tryd.prog 9 #[.pointer (some ⟨db,0,none⟩)] h (b8 fun r h'=>gW h' r (fP d)/\ak h h'):=by
 rcases Nat.eq_zero_or_pos d.next.length with hz|hd0
 · exact(zK k hz).ret fun r h' q=>by
    obtain⟨rfl,rfl⟩:=q;exact⟨.inl ⟨rfl,by rw[fP,if_pos hz]⟩,Ext.refl _ _⟩
 · exact(Bn htens k hok hd0).ret fun r h' q=>by
    obtain⟨⟨b,hr,hk⟩,e⟩:=q;exact⟨.inr ⟨b,hr,hk.rd⟩,e⟩
end
end Go.Proofs.YtbbjkiigpdjaaaaDoor
namespace Go.Proofs.YtbbjkiigpdjaaaaDoor
open Go
def gw (B:Nat) (ss:List aH):Prop:=∀x∈ss,x.rule<=B
theorem gw.snoc {B:Nat}{ss:List aH}(k:gw B ss){x:aH}(h:x.rule<=B):gw B (ss++[x]):=fun y hy=>by
  rcases List.mem_append.1 hy with e|e
  · exact k y e
  · have:y=x:=by simpa using e
    rw[this];exact h
theorem gw.set {B:Nat}{ss:List aH}(k:gw B ss){x:aH}(h:x.rule<=B) (i:Nat):gw B (ss.set i x):=fun y hy=>by
  rcases List.mem_or_eq_of_mem_set hy with e|e
  · exact k y e
  · rw[e];exact h
mutual
theorem uJ (B:Nat):∀(x:Nd) (ss:List aH) (to:Nat),gw B ss->gw B (lay x ss to).1
  |.mk k s kids,ss,to,h=>by
    rw[lay];split
    · exact h.snoc (Nat.zero_le _)
    · split
      · exact tM B kids ss to h
      · split
        · exact(tN B kids ss to h).snoc (Nat.zero_le _)
        · split
          · exact(tL B kids ss to h).snoc (Nat.zero_le _)
          · split
            · exact(tL B kids _ _ (h.snoc (Nat.zero_le _))).set (Nat.zero_le _) _
            · exact h
theorem tM (B:Nat):∀(l:List Nd) (ss:List aH) (to:Nat),gw B ss->gw B (aD l ss to).1
  | [],ss,to,h=>by rw[aD];exact h
  |x::r,ss,to,h=>by rw[aD];exact uJ B x _ _ (tM B r ss to h)
theorem tN (B:Nat):∀(l:List Nd) (ss:List aH) (to:Nat),gw B ss->gw B (aC l ss to).1
  | [],ss,to,h=>by rw[aC];exact h
  |x::r,ss,to,h=>by rw[aC];exact tN B r _ to (uJ B x ss to h)
theorem tL (B:Nat):∀(l:List Nd) (ss:List aH) (to:Nat),gw B ss->gw B (aM l ss to).1
  | [],ss,to,h=>by rw[aM];exact h
  |x::r,ss,to,h=>by rw[aM];exact uJ B x ss to h
end
theorem vZ (B:Nat):∀(i:Nat) (rules:List By) (ss:List aH) (t:List Nat) (ss':List aH) (t':List Nat),i+rules.length<=B->gw B ss->cZ i rules ss t= .inr (ss',t')->gw B ss'
  |i,[],ss,t,ss',t',_,h,hm=>by
    rw[cZ] at hm;cases hm;exact h
  |i,s::r,ss,t,ss',t',hB,h,hm=>by
    rw[List.length_cons] at hB;rw[cZ] at hm;split at hm
    · cases hm
    · exact vZ B (i+1) r _ _ ss' t' (by omega) (uJ B _ _ _ (h.snoc (by show i<=B;omega))) hm
theorem vY {rules:List By}{ss:List aH}{st:Nat}(h:cC rules= .inr (ss,st)):∀x∈ss,x.rule<=1000000:=by
  unfold cC at h;split at h
  · cases h
  · rename_i hn;split at h
    · cases h
    · rename_i ss1 t1 hg;split at h
      · cases h
      · cases h;have:=vZ 64 0 rules [] [] ss1 t1 (by omega) (fun x hx=>(by cases hx)) hg;intro x hx;have:=(this.snoc (x:=⟨0,0,t1,0⟩) (Nat.zero_le _)) x hx;omega
end Go.Proofs.YtbbjkiigpdjaaaaDoor
namespace Go.Proofs.YtbbjkiigpdjaaaaDoor
open Go Go.Lw
set_option maxRecDepth 20000
theorem mM {h:af}{p:Value}{d:aJ}(htens:lI h) (k:gW h p d) (hok:d.Ok):an Tryd.prog 9 #[p] h (b8 fun r h'=>gW h' r (fP d)/\ak h h'):=by
  rcases k with ⟨rfl,rfl⟩|⟨db,rfl,k⟩
  · exact Bm
  · exact Ch htens k hok
def ck (rules:List By):Int ⊕ aJ:=match cC rules with
  |.inl e=>.inl e
  |.inr (ss,st)=>eS ss st
def gV (rules:List By):Int:=match ck rules with|.inl e=>e|.inr _=>0
theorem we:∀(i:Nat) (rules:List By) (ss:List aH) (t:List Nat) (e:Int),cZ i rules ss t= .inl e->e≠0
  |i,[],ss,t,e,h=>by rw[cZ] at h;cases h
  |i,s::r,ss,t,e,h=>by
    rw[cZ] at h;split at h
    · rename_i hp;cases h;exact hp
    · exact we (i+1) r _ _ e h
theorem AY {rules:List By}{e:Int}(h:cC rules= .inl e):e≠0:=by
  unfold cC at h;split at h
  · cases h;decide
  · split at h
    · rename_i e' hg;cases h;exact we _ _ _ _ _ hg
    · split at h
      · cases h;decide
      · cases h
theorem tS {rules:List By}{d:aJ}(h:ck rules= .inr d):d.Ok/\0<d.next.length:=by
  unfold ck at h;split at h
  · cases h
  · rename_i ss st hm;refine⟨tR h (vY hm),?_⟩;obtain⟨_,L,_,h2,h3⟩:=gE h;omega
end Go.Proofs.YtbbjkiigpdjaaaaDoor
namespace Go.Proofs.YtbbjkiigpdjaaaaDoor
open Go Go.Lw
set_option maxRecDepth 20000 set_option maxHeartbeats 4000000
section
variable {h:af}{p:Value}{d:aJ}{rules:List By}
theorem eI (k:gW h p d):an Tryd.prog 10 #[p] h (b8 fun r h'=>r= .int .i64 (d.next.length:Nat)/\h'=h):=by
 refine cV ?_;refine aa ?_;refine xo rfl (bz rfl (fR k)) ?_;rintro _ h0 ⟨rfl,hh0⟩;refine aa ?_;subst hh0;refine bF (fun hz=>?_) (fun hz=>?_)
 · refine aa ?_;refine bU ?_;exact⟨_,rfl,by rw[hz];rfl,rfl⟩
 · rcases k with ⟨_,rfl⟩|⟨db,rfl,vn,vr,hk,⟨na,nn,nc,rfl,hnl,_⟩,h2⟩
   exact absurd rfl hz;refine aa ?_;refine xp rfl (aE rfl (hk.cell (i:=0) rfl)) ?_;refine aa ?_;refine bU ?_;exact⟨_,rfl,by rw[hnl];rfl,rfl⟩
theorem kJ (s:Int) (c:UInt8) (k:gW h p d) (hs : -9223372036854775808<=s/\s<=9223372036854775807):an Tryd.prog 11 #[p,.int .i64 s,.int .u8 (c.toNat:Nat)] h (b8 fun r h'=>r= .int .i64 (kK d s c)/\h'=h):=by
 refine cV ?_;refine bT ?_;refine cU ?_;refine aY ?_;refine eW ?_
 iterate 2 refine bT ?_
 refine jY [(21,.bool (decide (s<0\/(d.next.length:Int)<=s)))] rfl ?_ ?_
 · refine aa ?_;refine xo rfl (bz rfl (fR k)) ?_;rintro _ h0 ⟨rfl,hh0⟩;subst hh0;refine aa ?_;refine ie 9 (fun hz=>?_) (fun hz=>?_)
   · have hz':=of_decide_eq_true hz;refine aa ?_;exact bH rfl ⟨au rfl (by rw[eq_comm,decide_eq_true_iff];omega),sb rfl⟩
   · have hz':=of_decide_eq_false hz
     rcases k with ⟨_,rfl⟩|⟨db,rfl,vn,vr,hk,⟨na,nn,nc,rfl,hnl,_⟩,h2⟩
     exact absurd rfl hz';refine aa ?_;refine ie 13 (fun hg=>?_) (fun hg=>?_)
     · have hg':=of_decide_eq_true hg;refine aa ?_;exact bH rfl ⟨au rfl (by rw[eq_comm,decide_eq_true_iff];omega),sb rfl⟩
     · have hg':=of_decide_eq_false hg;refine aa ?_;refine xp rfl (aE rfl (hk.cell (i:=0) rfl)) ?_;refine aa ?_;exact bH rfl ⟨au rfl (by simp only[decide_eq_decide];omega),sb rfl⟩
 · refine bF (fun hz=>?_) (fun hz=>?_)
   · refine aa ?_;refine bU ?_;rw[kK,if_pos hz];exact⟨_,rfl,rfl,rfl⟩
   · obtain⟨i,rfl⟩:=Int.eq_ofNat_of_zero_le (show 0<=s by omega)
     rcases k with ⟨_,rfl⟩|⟨db,rfl,vn,vr,hk,⟨na,nn,nc,rfl,hnl,_,_,hget⟩,h2⟩
     exact absurd (.inr (by show ((([]:List Row).length:Nat):Int)<=_;simp)) hz;obtain⟨r,hr⟩:∃r,d.next[i]? =some r:=⟨_,List.getElem?_eq_getElem (by omega)⟩
     obtain⟨b,o,cs,ha,_,hrow,rfl⟩:=hget i r hr;obtain⟨x,hx,he,_⟩:=r.at c;have hc:=c.toNat_lt;have hcell:cellAt h ⟨b,o+i*256+c.toNat*1,none⟩=some (.int .i64 x):=by rw[Nat.mul_one];exact hrow c.toNat _ (by simp[bu,hx])
     refine aa ?_;refine xp rfl (aE rfl (hk.cell (i:=0) rfl)) ?_
     iterate 2 refine aY ?_
     refine xp rfl (bK rfl rfl i rfl ha) ?_;refine xp rfl (wZ rfl rfl c.toNat rfl (by omega)) ?_;refine xp rfl (aE rfl hcell) ?_;refine aa ?_;refine bU ?_;have hto:d.to i c=x:=by unfold aJ.to;rw[hr];exact he
     rw[kK,if_neg hz];exact⟨_,rfl,by show _=Value.int .i64 (d.to i c);rw[hto];rfl,rfl⟩
theorem mN (s:Int) (k:gW h p d) (hok:d.rule.length=d.next.length) (hs : -9223372036854775808<=s/\s<=9223372036854775807):an Tryd.prog 12 #[p,.int .i64 s] h (b8 fun r h'=>r= .int .i64 (pO d s)/\h'=h):=by
 refine cV ?_;refine bT ?_;refine cU ?_;refine aY ?_;refine eW ?_
 iterate 2 refine bT ?_
 refine jY [(19,.bool (decide (s<0\/(d.next.length:Int)<=s)))] rfl ?_ ?_
 · refine aa ?_;refine xo rfl (bz rfl (fR k)) ?_;rintro _ h0 ⟨rfl,hh0⟩;subst hh0;refine aa ?_;refine ie 7 (fun hz=>?_) (fun hz=>?_)
   · have hz':=of_decide_eq_true hz;refine aa ?_;exact bH rfl ⟨au rfl (by rw[eq_comm,decide_eq_true_iff];omega),sb rfl⟩
   · have hz':=of_decide_eq_false hz
     rcases k with ⟨_,rfl⟩|⟨db,rfl,vn,vr,hk,⟨na,nn,nc,rfl,hnl,_⟩,h2⟩
     exact absurd rfl hz';refine aa ?_;refine ie 11 (fun hg=>?_) (fun hg=>?_)
     · have hg':=of_decide_eq_true hg;refine aa ?_;exact bH rfl ⟨au rfl (by rw[eq_comm,decide_eq_true_iff];omega),sb rfl⟩
     · have hg':=of_decide_eq_false hg;refine aa ?_;refine xp rfl (aE rfl (hk.cell (i:=0) rfl)) ?_;refine aa ?_;exact bH rfl ⟨au rfl (by simp only[decide_eq_decide];omega),sb rfl⟩
 · refine bF (fun hz=>?_) (fun hz=>?_)
   · refine aa ?_;refine bU ?_;rw[pO,if_pos hz];exact⟨_,rfl,rfl,rfl⟩
   · obtain⟨i,rfl⟩:=Int.eq_ofNat_of_zero_le (show 0<=s by omega)
     rcases k with ⟨_,rfl⟩|⟨db,rfl,vn,vr,hk,h1,⟨ra,rn,rc,rfl,hrl,_,_,hget⟩⟩
     exact absurd (.inr (by show ((([]:List Row).length:Nat):Int)<=_;simp)) hz;obtain⟨x,hx⟩:∃x,d.rule[i]? =some x:=⟨_,List.getElem?_eq_getElem (by omega)⟩
     obtain⟨b,o,cs,ha,_,hrow,rfl⟩:=hget i x hx;refine aa ?_;refine xp rfl (aE rfl (hk.cell (i:=1) rfl)) ?_;refine aY ?_;refine xp rfl (bK rfl rfl i rfl ha) ?_;refine xp rfl (aE rfl (hrow 0 _ rfl)) ?_;refine aa ?_;refine bU ?_;have hru:d.ru i=x:=by unfold aJ.ru;rw[List.getD_eq_getElem?_getD,hx];rfl
     rw[pO,if_neg hz];exact⟨_,rfl,by show _=Value.int .i64 (d.ru i);rw[hru];rfl,rfl⟩
def BG (h:af) (rules:List By) (r:Value):Prop:=∃p q,r= .tuple #[p,q,.int .i64 (gV rules)]/\match ck rules with
 |.inl _=>q= .pointer none
 |.inr d=>mV h p rules/\∃db,q= .pointer (some ⟨db,0,none⟩)/\ja h db d
theorem gC {lim:Nat}(hg:Sg h lim) (hlim:lim<=h.size) (htens:lI h){rv:Value}(hr:aP CS h (fun _=>False) rv rules) (hrl:∀s∈rules,s.length<=1000000) :
 an Tryd.prog 7 #[rv] h (b8 fun r h'=>BG h' rules r/\ak h h'):=by
 refine cV ?_;refine aa ?_;refine xo rfl (bz rfl (zy hg hlim hr hrl)) ?_;rintro _ h1 ⟨⟨p,rfl,hp⟩,e1⟩
 rcases hp with ⟨e,hm,rfl⟩|hmade
 · have he:tI rules=e:=by unfold tI;rw[hm]
   have hne:=AY hm;have hd:ck rules= .inl e:=by unfold ck;rw[hm]
   have hde:gV rules=e:=by unfold gV;rw[hd]
   rw[he];refine aa ?_;refine bF (fun hz=>?_) (fun hz=>?_)
   · refine aa ?_;refine bU ?_;exact⟨_,rfl,⟨_,_,by rw[hde];rfl,by rw[hd]⟩,e1⟩
   · exact absurd (by simpa using hz) hne
 · obtain⟨O,nb,v,ss,st,rfl,hn,hm⟩:=hmade;have hmd:mV h1 (.pointer (some ⟨nb,0,none⟩)) rules:=⟨O,nb,v,ss,st,rfl,hn,hm⟩
   have hM:=jv hm;have hb:=wh hM;have he:tI rules=0:=by unfold tI;rw[hm]
   have hd:ck rules=eS ss st:=by unfold ck;rw[hm]
   rw[he];refine aa ?_;refine oe rfl (by simp) ?_;refine aa ?_;refine xo rfl (bz rfl (wI (htens.ah e1) hn hM.good hM.len hM.stl hb.2.1 hb.2.2)) ?_;rintro r2 h2 ⟨hr2,e2⟩;unfold u6 at hr2
   rcases hdm:eS ss st with e|d
   · rw[hdm] at hr2;simp only at hr2;subst hr2;refine aa ?_;refine bU ?_;exact⟨_,rfl,⟨_,_,by unfold gV;rw[hd,hdm];rfl,by rw[hd,hdm];rfl⟩,e1.trans e2⟩
   · rw[hdm] at hr2;obtain⟨db,rfl,hk⟩:=hr2;refine aa ?_;refine bU ?_;exact⟨_,rfl,⟨_,_,by unfold gV;rw[hd,hdm];rfl,by rw[hd,hdm];exact⟨hmd.ah e2,db,rfl,hk⟩⟩,e1.trans e2⟩
theorem iD {s:By}{a x y z:Int}(k:gW h p d) (hok:d.Ok) (hs:s.length<=1000000) :
 an Tryd.prog 13 #[p,.string (bs s),.int .i64 a,.int .i64 x,.int .i64 y,.int .i64 z] h (b8 fun r h'=>r= .bool (decide (eR d s a=(x,y,z)))/\h'=h):=by
 refine cV ?_;refine aa ?_;refine xo rfl (bz rfl (uO k hok hs)) ?_;rintro _ h1 ⟨rfl,hh1⟩
 iterate 7 refine aY ?_
 refine eW ?_;refine bT ?_;subst hh1;generalize eR d s a=m
 have hmm:decide (m=(x,y,z))=(decide (m.1=x) && (decide (m.2.1=y) && decide (m.2.2=z))):=by
  rw[<-Bool.decide_and,<-Bool.decide_and];congr 1;rw[Prod.ext_iff,Prod.ext_iff]
 refine jY [(12,.bool (decide (m=(x,y,z))))] rfl ?_ ?_
 · refine aa ?_;refine ie 27 (fun hg=>?_) (fun hg=>?_)
   · refine aa ?_;refine ie 32 (fun hg2=>?_) (fun hg2=>?_)
     · refine aa ?_;exact bH rfl ⟨au rfl (by rw[hmm,hg,hg2,Bool.true_and,Bool.true_and]),sb rfl⟩
     · refine aa ?_;exact bH rfl ⟨au rfl (by rw[hmm,hg,hg2,Bool.true_and,Bool.false_and]),sb rfl⟩
   · refine aa ?_;exact bH rfl ⟨au rfl (by rw[hmm,hg,Bool.false_and]),sb rfl⟩
 · refine bU ?_;exact⟨_,rfl,rfl,rfl⟩
def Dr:List By:=[[97,98],[97,99],[97]]
def Es:List By:=[[91,94,92,120,48,48,45,92,120,102,102,93,97]]
def EO:List By:=[[97,98],[98,98],[98]]
def lP (x:Int ⊕ aJ):aJ:=match x with|.inl _=>⟨[],[]⟩|.inr d=>d
def wv (x:Int ⊕ aJ):Bool:=match x with|.inl _=>false|.inr _=>true
theorem C6 {x:Int ⊕ aJ}(h:wv x=true):x= .inr (lP x):=by
 cases x with
 |inl e=>cases h
 |inr d=>rfl
theorem nM:wv (ck Dr)=true/\(lP (ck Dr)).next.length=4/\(fP (lP (ck Dr))).next.length=4/\eR (lP (ck Dr)) [97,98,120] 0=(2,0,2)/\eR (lP (ck Dr)) [98] 0=(0,-1,0):=by decide +kernel
theorem uN:wv (ck Es)=true/\(lP (ck Es)).next.length=1/\(fP (lP (ck Es))).next.length=1:=by decide +kernel
theorem yR:wv (ck EO)=true/\eR (lP (ck EO)) [97] 0=(0,-1,1):=by decide +kernel
theorem BG.DN {r:Value}(k:BG h rules r) (hd:wv (ck rules)=true):∃p q,r= .tuple #[p,q,.int .i64 0]/\mV h p rules/\gW h q (lP (ck rules))/\(lP (ck rules)).Ok:=by
 obtain⟨p,q,rfl,k⟩:=k;have e:=C6 hd;have hok:=(tS e).1;have hE:gV rules=0:=by unfold gV;rw[e]
 rw[e] at k;obtain⟨k1,db,rfl,k2⟩:=k;exact⟨p,_,by rw[hE],k1,.inr ⟨db,rfl,k2⟩,hok⟩
theorem gx {lim:Nat}(hg:Sg h lim) (hlim:lim<=h.size) (htens:lI h):an Tryd.prog 5 #[] h (b8 fun r h'=>r= .bool true/\ak h h'):=by
 refine cV ?_;refine aa ?_;refine xo rfl (ji [_,_,_]) ?_;rintro _ _ ⟨rfl,rfl⟩;refine xo rfl (bz rfl (gC (hg.ext (Ext.push (fun _=>False) h _) (fun _ k=>k.elim)) (by simp;omega) (htens.ah (Ext.push (fun _=>False) h _)) (lits Dr 3 rfl (by decide)) (by intro s hs;simp[Dr] at hs;rcases hs with rfl|rfl|rfl<;>decide))) ?_;rintro _ h1 ⟨hd,e1⟩;have e1:ak h h1:=(Ext.push (fun _=>False) h _).trans e1;obtain⟨p1,q1,rfl,_,k1,ok1⟩:=hd.DN nM.1;have hz1:=e1.size;refine aa ?_;refine xo rfl (ji [_]) ?_;rintro _ _ ⟨rfl,rfl⟩;refine xo rfl (bz rfl (gC (hg.ext (e1.trans (Ext.push (fun _=>False) h1 _)) (fun _ k=>k.elim)) (by simp;omega) (htens.ah (e1.trans (Ext.push (fun _=>False) h1 _))) (lits Es 1 rfl (by decide)) (by intro s hs;simp[Es] at hs;subst hs;decide))) ?_;rintro _ h2 ⟨hd,e2⟩;have e2:ak h1 h2:=(Ext.push (fun _=>False) h1 _).trans e2;have e02:=e1.trans e2;obtain⟨p2,q2,rfl,_,k2,ok2⟩:=hd.DN uN.1;have hz2:=e02.size;refine aa ?_;refine xo rfl (ji [_,_,_]) ?_;rintro _ _ ⟨rfl,rfl⟩;refine xo rfl (bz rfl (gC (hg.ext (e02.trans (Ext.push (fun _=>False) h2 _)) (fun _ k=>k.elim)) (by simp;omega) (htens.ah (e02.trans (Ext.push (fun _=>False) h2 _))) (lits EO 3 rfl (by decide)) (by intro s hs;simp[EO] at hs;rcases hs with rfl|rfl|rfl<;>decide))) ?_;rintro _ h3 ⟨hd,e3⟩;have e3:ak h2 h3:=(Ext.push (fun _=>False) h2 _).trans e3;have e03:=e02.trans e3;obtain⟨p3,q3,rfl,_,k3,ok3⟩:=hd.DN yR.1;have k1:=(k1.ah e2).ah e3;have k2:=k2.ah e3
 iterate 7 refine aY ?_
 refine eW ?_;refine bT ?_;refine EM (fun(_u:Unit) (h':af)=>ak h h') (fun(_u:Unit)=>[(0,.bool true)]) rfl ?_ ?_
 · refine aa ?_;refine RW.ew (d:=30) (b':=true) rfl (rfl) ?_;refine aa ?_;refine xo rfl (bz rfl (eI k1)) ?_;rintro _ h4 ⟨rfl,hh4⟩;refine aa ?_;subst hh4;refine RW.ew (d:=35) (b':=true) rfl ((by rw[nM.2.1];rfl)) ?_;refine aa ?_;refine xo rfl (bz rfl (mM (htens.ah e03) k1 ok1)) ?_;rintro _ h4 ⟨m1,e4⟩;refine xo rfl (bz rfl (eI m1)) ?_;rintro _ h5 ⟨rfl,hh5⟩;refine aa ?_;subst hh5;refine RW.ew (d:=41) (b':=true) rfl ((by rw[nM.2.2.1];rfl)) ?_;refine aa ?_;refine xo rfl (bz rfl (iD (s:=[97,98,120]) (k1.ah e4) ok1 (by decide))) ?_;rintro _ h5 ⟨rfl,hh5⟩;refine aa ?_;subst hh5;refine RW.ew (d:=45) (b':=true) rfl ((by rw[nM.2.2.2.1];rfl)) ?_;refine aa ?_;refine xo rfl (bz rfl (iD (s:=[98]) (k1.ah e4) ok1 (by decide))) ?_;rintro _ h5 ⟨rfl,hh5⟩;refine aa ?_;subst hh5;refine RW.ew (d:=49) (b':=true) rfl ((by rw[nM.2.2.2.2];rfl)) ?_;refine aa ?_;refine RW.ew (d:=53) (b':=true) rfl (rfl) ?_;refine aa ?_;refine xo rfl (bz rfl (eI (k2.ah e4))) ?_;rintro _ h5 ⟨rfl,hh5⟩;refine aa ?_;subst hh5;refine RW.ew (d:=58) (b':=true) rfl ((by rw[uN.2.1];rfl)) ?_;refine aa ?_;refine xo rfl (bz rfl (mM (htens.ah (e03.trans e4)) (k2.ah e4) ok2)) ?_;rintro _ h6 ⟨m2,e6⟩;refine xo rfl (bz rfl (eI m2)) ?_;rintro _ h7 ⟨rfl,hh7⟩;refine aa ?_;subst hh7;refine RW.ew (d:=64) (b':=true) rfl ((by rw[uN.2.2];rfl)) ?_;refine aa ?_;refine RW.ew (d:=68) (b':=true) rfl (rfl) ?_;refine aa ?_;refine xo rfl (bz rfl (iD (s:=[97]) ((k3.ah e4).ah e6) ok3 (by decide))) ?_;rintro _ h7 ⟨rfl,hh7⟩;refine aa ?_;subst hh7;exact Ak () ((e03.trans e4).trans e6) ⟨au rfl (by rw[yR.2];rfl),sb rfl⟩
 · rintro _ h4 e4;refine bU ?_;exact⟨_,rfl,rfl,e4⟩
def mE (l:List By):Bool:=decide (5<l.length) ||l.any fun s=>decide (24<s.length)
theorem sV {rv:Value}(hr:aP CS h (fun _=>False) rv rules) :
 an Tryd.prog 4 #[rv] h (b8 fun r h'=>r= .bool (mE rules)/\h'=h):=by
 obtain⟨oa,kn,kc,rfl,hsl⟩:=id hr.open;have hkn:=hsl.len;have hkc:=hsl.le;have hcap:=hsl.cap;refine cV ?_;refine aa ?_;refine bF (fun hbig=>?_) (fun hbig=>?_)
 · refine aa ?_;refine bU ?_;exact⟨_,rfl,by rw[mE,decide_eq_true (show 5<rules.length by omega)];rfl,rfl⟩
 · have hgp:mE rules=rules.any fun s=>decide (24<s.length):=by rw[mE,decide_eq_false (show ¬5<rules.length by omega),Bool.false_or]
   refine aa ?_;refine fG (σ:=Nat) (fun i=>[(3,.int .i64 (i:Nat))]) (fun i h'=>i<=kn/\h'=h/\(rules.drop i).any (fun s=>decide (24<s.length))=mE rules) (fun i=>kn-i) (0) ⟨Nat.zero_le _,rfl,hgp.symm⟩ rfl ?_;rintro i g ⟨hi,rfl,hcon⟩ ih;refine aa ?_;refine bF (fun hlt=>?_) (fun hlt=>?_)
   · obtain⟨s,hs⟩:∃s,rules[i]? =some s:=⟨_,List.getElem?_eq_getElem (by omega)⟩
     have hdr:rules.drop i=s::rules.drop (i+1):=by
      obtain⟨hi',rfl⟩:=List.getElem?_eq_some_iff.1 hs;exact List.drop_eq_getElem_cons hi'
     rw[hdr,List.any_cons] at hcon;obtain⟨b,o,cs,ha,hob,hrow,rfl⟩:=hsl.get i s hs;have hbs:=dF s
     iterate 4 refine bT ?_
     refine cU ?_
     iterate 2 refine aY ?_
     refine xp rfl (bK rfl rfl i rfl ha) ?_;refine xp rfl (aE rfl (hrow 0 _ rfl)) ?_;refine aa ?_;refine bF (fun hlong=>?_) (fun hlong=>?_)
     · rw[decide_eq_true (show 24<s.length by omega)] at hcon;refine aa ?_;refine bU ?_;exact⟨_,rfl,by rw[<-hcon];rfl,rfl⟩
     · rw[decide_eq_false (show ¬24<s.length by omega),Bool.false_or] at hcon;refine aa ?_;exact ih (i+1) ⟨by omega,rfl,hcon⟩
   · have hnil:rules.drop i=[]:=List.drop_of_length_le (by omega);rw[hnil] at hcon;refine aa ?_;refine bU ?_;exact⟨_,rfl,by rw[<-hcon];rfl,rfl⟩
theorem xQ {l:List By}(h:mE l=false):l.length<=5/\∀s∈l,s.length<=24:=by
 simp only[mE,Bool.or_eq_false_iff,decide_eq_false_iff_not,List.any_eq_false] at h;exact⟨by omega,fun s hs=>by have:=h.2 s hs;simpa using this⟩
end
end Go.Proofs.YtbbjkiigpdjaaaaDoor
namespace Go.Proofs.YtbbjkiigpdjaaaaDoor
section
variable {F:List aH}{i j:Nat}{x:aH}
inductive cP (F:List aH):Nat->Nat->Nat->Prop where
  |refl (i:Nat):cP F 0 i i
  |step {n i j k:Nat}{x:aH}:F[i]? =some x->x.kind=0->j∈x.to->cP F n j k->cP F (n+1) i k
theorem cP.sW {n:Nat}(h:cP F n i j):sN F i j:=by
  induction h with
  |refl=>exact .refl _
  |step a b c _ ih=>exact .step a b c ih
theorem sN.Dm (h:sN F i j):∃n,cP F n i j:=by
  induction h with
  |refl=>exact⟨_,.refl _⟩
  |step a b c _ ih=>obtain⟨n,hn⟩:=ih;exact⟨_,.step a b c hn⟩
def n4 (F:List aH) (j:Nat):Prop:=∃x,F[j]? =some x/\x.kind≠0
theorem cP.fork {n:Nat}(hx:F[i]? =some x) (hk:x.kind=0) (hj:n4 F j) (h:cP F n i j):∃m q,n=m+1/\q∈x.to/\cP F m q j:=by
  cases h with
  |refl=>obtain⟨y,hy,hn⟩:=hj;rw[hx] at hy;cases hy;exact absurd hk hn
  |step hy _ hq h=>rw[hx] at hy;cases hy;exact⟨_,_,rfl,hq,h⟩
structure Pos (F:List aH) (sets:List Nat) (P:Nat->Nat) (lo hi:Nat) (null:Bool) (Fi La:Nat->Prop) (Fol:Nat->Nat->Prop) (A B:Nat->Nat->Prop):Prop where
  fr:∀q,Fi q->lo<=q/\q<hi
  lr:∀q,La q->lo<=q/\q<hi
  gr:∀p q,Fol p q->(lo<=p/\p<hi)/\lo<=q/\q<hi
  st:∀q,lo<=q->q<hi->∃s t,sets[q]? =some s/\F[P q]? =some ⟨1,s,[t],0⟩ /\
    (∀n j,n4 F j->cP F n t j->(∃q',Fol q q'/\P q'=j)\/(La q/\∃m,m<=n/\B m j)) /\
    (∀q',Fol q q'->∃n,cP F n t (P q'))/\(La q->∀n j,n4 F j->B n j->∃m,cP F m t j)
  en:∀n j,n4 F j->A n j->(∃q,Fi q/\P q=j)\/(null=true/\∃m,m<=n/\B m j)
  ef:∀q,Fi q->∃n,A n (P q)
  ex:null=true->∀n j,n4 F j->B n j->∃m,A m j
section
variable {F:List aH}{S:List Nat}{P P1 P2:Nat->Nat}{lo mid hi:Nat}{n1 n2 null:Bool}{Fi F1 F2 La L1 L2:Nat->Prop}{Fol Fol1 Fol2:Nat->Nat->Prop}{A A1 A2 M B:Nat->Nat->Prop}
theorem Pos.Fh (k:Pos F S P lo hi null Fi La Fol A B){q:Nat}(h1:lo<=q) (h2:q<hi):n4 F (P q):=by
  obtain⟨s,t,_,h,_⟩:=k.st q h1 h2;exact⟨_,h,Nat.one_ne_zero⟩
theorem Pos.congr {Fi' La':Nat->Prop}{Fol':Nat->Nat->Prop}(k:Pos F S P lo hi null Fi La Fol A B) (hF:∀q,Fi' q↔Fi q) (hL:∀q,La' q↔La q) (hG:∀p q,Fol' p q↔Fol p q):Pos F S P lo hi null Fi' La' Fol' A B:=by
  have e1:Fi'=Fi:=funext fun q=>propext (hF q)
  have e2:La'=La:=funext fun q=>propext (hL q)
  have e3:Fol'=Fol:=funext fun p=>funext fun q=>propext (hG p q)
  rw[e1,e2,e3];exact k
theorem Pos.via {A':Nat->Nat->Prop}(k:Pos F S P lo hi null Fi La Fol A B) (h1:∀n j,n4 F j->A' n j->∃m,m<=n/\A m j) (h2:∀n j,A n j->∃m,A' m j):Pos F S P lo hi null Fi La Fol A' B :=
  ⟨k.fr,k.lr,k.gr,k.st,fun n j hj h=>by
    obtain⟨m,hm,h⟩:=h1 n j hj h;exact(k.en m j hj h).imp id fun⟨h0,m',hm',h⟩=>⟨h0,m',Nat.le_trans hm' hm,h⟩,fun q hq=>by
    obtain⟨n,h⟩:=k.ef q hq;exact h2 n _ h,fun h0 n j hj h=>by
    obtain⟨m,h⟩:=k.ex h0 n j hj h;exact h2 m _ h⟩
theorem Pos.nil (P:Nat->Nat) (h:null=true->A=B) (h':null=false->∀n j,¬A n j):Pos F S P lo lo null (fun _=>False) (fun _=>False) (fun _ _=>False) A B :=
  ⟨fun _ h=>h.elim,fun _ h=>h.elim,fun _ _ h=>h.elim,fun q h1 h2=>by omega,fun n j _ q=>by
    cases null with
    |true=>exact .inr ⟨rfl,n,Nat.le_refl _,by rw[<-h rfl];exact q⟩
    |false=>exact(h' rfl n j q).elim,fun _ h=>h.elim,fun h0 n j _ q=>⟨n,by rw[h h0];exact q⟩⟩
theorem Pos.cat (h1:Pos F S P1 lo mid n1 F1 L1 Fol1 A M) (h2:Pos F S P2 mid hi n2 F2 L2 Fol2 M B) (hm1:lo<=mid) (hm2:mid<=hi) :
    Pos F S (fun q=>if q<mid then P1 q else P2 q) lo hi (n1 && n2) (fun q=>F1 q\/(n1=true/\F2 q)) (fun q=>L2 q\/(n2=true/\L1 q)) (fun p q=>Fol1 p q\/Fol2 p q\/(L1 p/\F2 q)) A B:=by
  have p1:∀q,q<mid->(if q<mid then P1 q else P2 q)=P1 q:=fun q h=>if_pos h
  have p2:∀q,mid<=q->(if q<mid then P1 q else P2 q)=P2 q:=fun q h=>if_neg (by omega)
  refine⟨fun q h=>?_,fun q h=>?_,fun p q h=>?_,fun q hq1 hq2=>?_,fun n j hj h=>?_,fun q h=>?_,fun h0 n j hj h=>?_⟩
  · rcases h with h|⟨_,h⟩
    · have:=h1.fr q h;omega
    · have:=h2.fr q h;omega
  · rcases h with h|⟨_,h⟩
    · have:=h2.lr q h;omega
    · have:=h1.lr q h;omega
  · rcases h with h|h|⟨h,h'⟩
    · have:=h1.gr p q h;omega
    · have:=h2.gr p q h;omega
    · have:=h1.lr p h;have:=h2.fr q h';omega
  · rcases Nat.lt_or_ge q mid with hq|hq
    · obtain⟨s,t,e1,e2,e3,e4,e5⟩:=h1.st q hq1 hq;refine⟨s,t,e1,by rw[p1 q hq];exact e2,fun n j hj h=>?_,fun q' h=>?_,fun h n j hj hb=>?_⟩
      · rcases e3 n j hj h with ⟨q',hf,hp⟩|⟨hl,m,hm,h⟩
        · exact .inl ⟨q',.inl hf,by rw[p1 q' (h1.gr q q' hf).2.2];exact hp⟩
        · rcases h2.en m j hj h with ⟨q',hf,hp⟩|⟨h0,m',hm',h⟩
          · exact .inl ⟨q',.inr (.inr ⟨hl,hf⟩),by rw[p2 q' (h2.fr q' hf).1];exact hp⟩
          · exact .inr ⟨.inr ⟨h0,hl⟩,m',by omega,h⟩
      · rcases h with h|h|⟨h,h'⟩
        · rw[p1 q' (h1.gr q q' h).2.2];exact e4 q' h
        · have:=h2.gr q q' h;omega
        · rw[p2 q' (h2.fr q' h').1];obtain⟨n,hn⟩:=h2.ef q' h';exact e5 h n _ (h2.Fh (h2.fr q' h').1 (h2.fr q' h').2) hn
      · rcases h with h|⟨h0,h⟩
        · have:=h2.lr q h;omega
        · obtain⟨m,hm⟩:=h2.ex h0 n j hj hb;exact e5 h m j hj hm
    · obtain⟨s,t,e1,e2,e3,e4,e5⟩:=h2.st q hq hq2;refine⟨s,t,e1,by rw[p2 q hq];exact e2,fun n j hj h=>?_,fun q' h=>?_,fun h n j hj hb=>?_⟩
      · rcases e3 n j hj h with ⟨q',hf,hp⟩|⟨hl,h⟩
        · exact .inl ⟨q',.inr (.inl hf),by rw[p2 q' (h2.gr q q' hf).2.1];exact hp⟩
        · exact .inr ⟨.inl hl,h⟩
      · rcases h with h|h|⟨h,h'⟩
        · have:=h1.gr q q' h;omega
        · rw[p2 q' (h2.gr q q' h).2.1];exact e4 q' h
        · have:=h1.lr q h;omega
      · rcases h with h|⟨h0,h⟩
        · exact e5 h n j hj hb
        · have:=h1.lr q h;omega
  · rcases h1.en n j hj h with ⟨q,hf,hp⟩|⟨h0,m,hm,h⟩
    · exact .inl ⟨q,.inl hf,by rw[p1 q (h1.fr q hf).2];exact hp⟩
    · rcases h2.en m j hj h with ⟨q,hf,hp⟩|⟨h0',m',hm',h⟩
      · exact .inl ⟨q,.inr ⟨h0,hf⟩,by rw[p2 q (h2.fr q hf).1];exact hp⟩
      · exact .inr ⟨by rw[h0,h0'];rfl,m',by omega,h⟩
  · rcases h with h|⟨h0,h⟩
    · rw[p1 q (h1.fr q h).2];exact h1.ef q h
    · rw[p2 q (h2.fr q h).1];obtain⟨n,hn⟩:=h2.ef q h;exact h1.ex h0 n _ (h2.Fh (h2.fr q h).1 (h2.fr q h).2) hn
  · rw[Bool.and_eq_true] at h0;obtain⟨m,hm⟩:=h2.ex h0.2 n j hj h;exact h1.ex h0.1 m j hj hm
theorem Pos.alt (h1:Pos F S P1 lo mid n1 F1 L1 Fol1 A1 B) (h2:Pos F S P2 mid hi n2 F2 L2 Fol2 A2 B) (hm1:lo<=mid) (hm2:mid<=hi) :
    Pos F S (fun q=>if q<mid then P1 q else P2 q) lo hi (n1 ||n2) (fun q=>F1 q\/F2 q) (fun q=>L1 q\/L2 q) (fun p q=>Fol1 p q\/Fol2 p q) (fun n j=>A1 n j\/A2 n j) B:=by
  have p1:∀q,q<mid->(if q<mid then P1 q else P2 q)=P1 q:=fun q h=>if_pos h
  have p2:∀q,mid<=q->(if q<mid then P1 q else P2 q)=P2 q:=fun q h=>if_neg (by omega)
  refine⟨fun q h=>?_,fun q h=>?_,fun p q h=>?_,fun q hq1 hq2=>?_,fun n j hj h=>?_,fun q h=>?_,fun h0 n j hj h=>?_⟩
  · rcases h with h|h
    · have:=h1.fr q h;omega
    · have:=h2.fr q h;omega
  · rcases h with h|h
    · have:=h1.lr q h;omega
    · have:=h2.lr q h;omega
  · rcases h with h|h
    · have:=h1.gr p q h;omega
    · have:=h2.gr p q h;omega
  · rcases Nat.lt_or_ge q mid with hq|hq
    · obtain⟨s,t,e1,e2,e3,e4,e5⟩:=h1.st q hq1 hq;refine⟨s,t,e1,by rw[p1 q hq];exact e2,fun n j hj h=>?_,fun q' h=>?_,fun h=>?_⟩
      · rcases e3 n j hj h with ⟨q',hf,hp⟩|⟨hl,h⟩
        · exact .inl ⟨q',.inl hf,by rw[p1 q' (h1.gr q q' hf).2.2];exact hp⟩
        · exact .inr ⟨.inl hl,h⟩
      · rcases h with h|h
        · rw[p1 q' (h1.gr q q' h).2.2];exact e4 q' h
        · have:=h2.gr q q' h;omega
      · rcases h with h|h
        · exact e5 h
        · have:=h2.lr q h;omega
    · obtain⟨s,t,e1,e2,e3,e4,e5⟩:=h2.st q hq hq2;refine⟨s,t,e1,by rw[p2 q hq];exact e2,fun n j hj h=>?_,fun q' h=>?_,fun h=>?_⟩
      · rcases e3 n j hj h with ⟨q',hf,hp⟩|⟨hl,h⟩
        · exact .inl ⟨q',.inr hf,by rw[p2 q' (h2.gr q q' hf).2.1];exact hp⟩
        · exact .inr ⟨.inr hl,h⟩
      · rcases h with h|h
        · have:=h1.gr q q' h;omega
        · rw[p2 q' (h2.gr q q' h).2.1];exact e4 q' h
      · rcases h with h|h
        · have:=h1.lr q h;omega
        · exact e5 h
  · rcases h with h|h
    · rcases h1.en n j hj h with ⟨q,hf,hp⟩|⟨h0,h⟩
      · exact .inl ⟨q,.inl hf,by rw[p1 q (h1.fr q hf).2];exact hp⟩
      · exact .inr ⟨by rw[h0];rfl,h⟩
    · rcases h2.en n j hj h with ⟨q,hf,hp⟩|⟨h0,h⟩
      · exact .inl ⟨q,.inr hf,by rw[p2 q (h2.fr q hf).1];exact hp⟩
      · exact .inr ⟨by rw[h0,Bool.or_true],h⟩
  · rcases h with h|h
    · rw[p1 q (h1.fr q h).2];obtain⟨n,h⟩:=h1.ef q h;exact⟨n,.inl h⟩
    · rw[p2 q (h2.fr q h).1];obtain⟨n,h⟩:=h2.ef q h;exact⟨n,.inr h⟩
  · rw[Bool.or_eq_true] at h0
    rcases h0 with h0|h0
    · obtain⟨m,h⟩:=h1.ex h0 n j hj h;exact⟨m,.inl h⟩
    · obtain⟨m,h⟩:=h2.ex h0 n j hj h;exact⟨m,.inr h⟩
theorem Pos.loop {a first to:Nat}(hx:F[a]? =some x) (hk:x.kind=0) (ht:x.to=[first,to]) (k:Pos F S P lo hi null Fi La Fol (fun n j=>cP F n first j) (fun n j=>cP F n a j)) :
    Pos F S P lo hi null Fi La (fun p q=>Fol p q\/(La p/\Fi q)) (fun n j=>cP F n first j) (fun n j=>cP F n to j) /\
    Pos F S P lo hi true Fi La (fun p q=>Fol p q\/(La p/\Fi q)) (fun n j=>cP F n a j) (fun n j=>cP F n to j):=by
  have key:∀N n,n<=N->∀j,n4 F j->cP F n first j->(∃q,Fi q/\P q=j)\/(null=true/\∃m,m<=n/\cP F m to j):=by
    intro N
    induction N with
    |zero =>
      intro n hn j hj h
      rcases k.en n j hj h with h|⟨h0,m,hm,h⟩
      · exact .inl h
      · obtain⟨m',q,e,_⟩:=h.fork hx hk hj;omega
    |succ N ih =>
      intro n hn j hj h
      rcases k.en n j hj h with h|⟨h0,m,hm,h⟩
      · exact .inl h
      · obtain⟨m',q,e,hq,h9⟩:=h.fork hx hk hj;rw[ht] at hq;simp only[List.mem_cons,List.not_mem_nil,or_false] at hq
        rcases hq with rfl|rfl
        · exact(ih m' (by omega) j hj h9).imp id fun⟨h0,m2,h2,h⟩=>⟨h0,m2,by omega,h⟩
        · exact .inr ⟨h0,m',by omega,h9⟩
  have ka:∀n j,n4 F j->cP F n a j->(∃q,Fi q/\P q=j)\/∃m,m<=n/\cP F m to j:=fun n j hj h=>by
    obtain⟨m',q,e,hq,h9⟩:=h.fork hx hk hj;rw[ht] at hq;simp only[List.mem_cons,List.not_mem_nil,or_false] at hq
    rcases hq with rfl|rfl
    · exact(key m' m' (Nat.le_refl _) j hj h9).imp id fun⟨_,m2,h2,h⟩=>⟨m2,by omega,h⟩
    · exact .inr ⟨m',by omega,h9⟩
  have st:∀q,lo<=q->q<hi->∃s t,S[q]? =some s/\F[P q]? =some ⟨1,s,[t],0⟩ /\
      (∀n j,n4 F j->cP F n t j->(∃q',(Fol q q'\/(La q/\Fi q'))/\P q'=j)\/(La q/\∃m,m<=n/\cP F m to j)) /\
      (∀q',(Fol q q'\/(La q/\Fi q'))->∃n,cP F n t (P q'))/\(La q->∀n j,n4 F j->cP F n to j->∃m,cP F m t j):=fun q h1 h2=>by
    obtain⟨s,t,e1,e2,e3,e4,e5⟩:=k.st q h1 h2;refine⟨s,t,e1,e2,fun n j hj h=>?_,fun q' h=>?_,fun h n j hj hb=>?_⟩
    · rcases e3 n j hj h with ⟨q',hf,hp⟩|⟨hl,m,hm,h⟩
      · exact .inl ⟨q',.inl hf,hp⟩
      · rcases ka m j hj h with ⟨q',hf,hp⟩|⟨m',hm',h⟩
        · exact .inl ⟨q',.inr ⟨hl,hf⟩,hp⟩
        · exact .inr ⟨hl,m',by omega,h⟩
    · rcases h with h|⟨h,h'⟩
      · exact e4 q' h
      · obtain⟨n,hn⟩:=k.ef q' h';exact e5 h (n+1) _ (k.Fh (k.fr q' h').1 (k.fr q' h').2) (.step hx hk (by rw[ht];simp) hn)
    · exact e5 h (n+1) j hj (.step hx hk (by rw[ht];simp) hb)
  have gr:∀p q,(Fol p q\/(La p/\Fi q))->(lo<=p/\p<hi)/\lo<=q/\q<hi:=fun p q h=>by
    rcases h with h|⟨h,h'⟩
    · exact k.gr p q h
    · exact⟨k.lr p h,k.fr q h'⟩
  refine⟨⟨k.fr,k.lr,gr,st,fun n j hj h=>key n n (Nat.le_refl _) j hj h,k.ef,fun h0 n j hj h=>k.ex h0 (n+1) j hj (.step hx hk (by rw[ht];simp) h)⟩,
    ⟨k.fr,k.lr,gr,st,fun n j hj h=>(ka n j hj h).imp id fun h=>⟨rfl,h⟩,fun q h=>?_,fun _ n j hj h=>⟨n+1,.step hx hk (by rw[ht];simp) h⟩⟩⟩
  obtain⟨n,h⟩:=k.ef q h;exact⟨n+1,.step hx hk (by rw[ht];simp) h⟩
theorem Pos.opt {a first to:Nat}(hx:F[a]? =some x) (hk:x.kind=0) (ht:x.to=[first,to]) (k:Pos F S P lo hi null Fi La Fol (fun n j=>cP F n first j) (fun n j=>cP F n to j)) :
    Pos F S P lo hi true Fi La Fol (fun n j=>cP F n a j) (fun n j=>cP F n to j):=by
  refine⟨k.fr,k.lr,k.gr,k.st,fun n j hj h=>?_,fun q h=>?_,fun _ n j _ h=>⟨n+1,.step hx hk (by rw[ht];simp) h⟩⟩
  · obtain⟨m',q,e,hq,h9⟩:=h.fork hx hk hj;rw[ht] at hq;simp only[List.mem_cons,List.not_mem_nil,or_false] at hq
    rcases hq with rfl|rfl
    · exact(k.en m' j hj h9).imp id fun⟨_,m2,h2,h⟩=>⟨rfl,m2,by omega,h⟩
    · exact .inr ⟨rfl,m',by omega,h9⟩
  · obtain⟨n,h⟩:=k.ef q h;exact⟨n+1,.step hx hk (by rw[ht];simp) h⟩
end
end
end Go.Proofs.YtbbjkiigpdjaaaaDoor
