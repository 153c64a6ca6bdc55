/- What the proof of the statement leans on (part 24). -/
import Derived.Below
import Derived.Lib.TrimUEq
import Derived.Test.YtfegacfjgjaghaaGreatDoorQw

namespace Go.Proofs.YtfegacfjgjaghaaGreatDoor
open Go Go.Lw
set_option maxRecDepth 20000
section
variable {h:Heap}{p:Value}
def Utf8H (h:Heap):Prop:=(∀c,c<256→cellAt h ⟨2,c,none⟩=some (.int .u8 (Lib.firstT c))) ∧
 (∀i,i<16→cellAt h ⟨3,2*i,none⟩=some (.int .u8 (Lib.accLo i))∧cellAt h ⟨3,2*i+1,none⟩=some (.int .u8 (Lib.accHi i)))
structure LxG (h:Heap):Prop where
 sg:∃lim,lim≤h.size∧Sg h lim
 tens:Tens h
 rules:RulesAt h
 utf:Utf8H h
 most:∃m,cellAt h ⟨5,0,none⟩=some (.int .i64 m)
theorem LxG.ext0 {h h':Heap}(k:LxG h) (e:Ext0 h h'):LxG h':=by
 obtain⟨⟨lim,h1,h2⟩,h3,h4,h5,m,h6⟩:=k;have hz:=e.size;exact⟨⟨lim,by omega,h2.ext e (fun _ k=>k.elim)⟩,h3.ext0 e,h4.ext0 e,⟨fun c hc=>e.cell (fun k=>k) (h5.1 c hc),fun i hi=>⟨e.cell (fun k=>k) (h5.2 i hi).1,e.cell (fun k=>k) (h5.2 i hi).2⟩⟩,m,e.cell (fun k=>k) h6⟩
theorem decode_calls (hg:LxG h) (l:By) (hl:l≠[]):CallsH Tryz.prog 72 #[.string (bs l)] h (Ret fun r h'=>(∃x:Nat,r= .tuple #[.int .i32 (x:Nat),.int .i64 (runeN l:Nat)])∧Ext0 h h'):=by
 refine CallsH.ofBelow fun w hw=>?_
 subst hw;have hT:Lib.Utf8Tabs 2 3 w:=⟨fun c hc=>by rw[cell_heap];exact hg.utf.1 c hc,fun i hi=>⟨by rw[cell_heap];exact(hg.utf.2 i hi).1,by rw[cell_heap];exact(hg.utf.2 i hi).2⟩⟩
 refine(Tryz.utf8_DecodeRuneInString (bs l) w hT).mono ?_;rintro e w' ⟨rfl,hb⟩
 have hn:(Lib.decodeGo (bs l)).2=runeN l:=by
  have h0:¬(bs l).size=0:=by rw[bs_size];have:=List.length_pos_iff.2 hl;omega
  unfold Lib.decodeGo;rw[if_neg h0,Lib.decode_N,bs_list];rfl
 refine⟨_,rfl,⟨⟨(Lib.decodeGo (bs l)).1,by rw[hn]⟩,⟨hb.size,fun b hlt _=>hb.block b hlt⟩⟩,hb.os,hb.tape,hb.output⟩
theorem contains_calls (hg:LxG h) (s t:By) (hs:s.length≤1000000):CallsH Tryz.prog 74 #[.string (bs s),.string (bs t)] h (Ret fun r h'=>r= .bool (Lib.contains s t)∧h'=h):=by
 obtain⟨m,hm⟩:=hg.most;refine CallsH.ofBelow fun w hw=>?_
 subst hw;refine(Tryz.strings_Contains (bs s) (bs t) m w (by rw[bs_size];omega) (by rw[cell_heap];exact hm)).mono ?_;rintro e w' ⟨rfl,rfl⟩;rw[bs_list,bs_list];exact⟨_,rfl,⟨rfl,rfl⟩,rfl,rfl,rfl⟩
theorem word_calls (hg:LxG h) (s:By) (hs:s.length≤1000000):CallsH Tryz.prog 48 #[.string (bs s)] h (Ret fun r h'=>r= .bool (wordP s)∧h'=h):=by
 have hbs:=bs_size s
 have e1:((⟨#[32]⟩:ByteArray)++bs s)++⟨#[32]⟩=bs (32::(s++[32])):=by
  rw[show (⟨#[32]⟩:ByteArray)=bs [32] from rfl,bs_append,bs_append];rfl
 have w1:(⟨#[32]⟩:ByteArray).size=1:=rfl;refine CallsH.of Tryz.func48 rfl rfl ?_;refine xrd Tryz.func48 1 [0,2] rfl ?_;refine G.seq rfl ?_;refine G.regTo1 [(2,.bool (wordP s))] [(0,_)] ⟨rfl,trivial⟩ Tryz.func48 rfl ?_ ?_
 · refine xqp 1 rfl rfl (OpP.neqStr rfl rfl) ?_;refine xqm 1 rfl ?_;refine RW.split (d:=5) rfl (fun hc=>?_) (fun hc=>?_)
   · have hc':decide (s≠[])=true:=decide_eq_true (fun e=>of_decide_eq_true hc (by rw[e];rfl));refine xqm 1 rfl ?_;refine xo rfl (OpX.call (vs:=[_,_]) Tryz.func74 rfl H.nm74 rfl (CallsH.toX (contains_calls hg s [32] hs))) ?_;rintro _ h0 ⟨rfl,hh0⟩;subst hh0;refine xqm 3 rfl ?_;refine RW.split (d:=10) rfl (fun hc2=>?_) (fun hc2=>?_)
     · refine xqp 1 rfl rfl (OpP.addStr rfl rfl (by omega)) ?_;refine xp rfl (OpP.addStr rfl rfl (by rw[ByteArray.size_append];omega)) ?_;rw[e1];refine xo rfl (OpX.call (vs:=[_,_]) Tryz.func74 rfl H.nm74 rfl (CallsH.toX (contains_calls hg wordsB (32::(s++[32])) (by decide)))) ?_;rintro _ h1 ⟨rfl,hh1⟩;subst hh1;refine xqm 2 rfl ?_;refine RW.done rfl ?_;exact⟨rfl,at_bool rfl (by rw[wordP,hc',hc2,Bool.true_and,Bool.true_and]),rfl,trivial⟩
     · refine xqm 6 rfl ?_;refine RW.done rfl ?_;exact⟨rfl,at_bool rfl (by rw[wordP,hc',hc2,Bool.true_and,Bool.false_and]),rfl,trivial⟩
   · refine xqm 11 rfl ?_;refine RW.done rfl ?_;exact⟨rfl,at_bool rfl (by rw[wordP,decide_eq_false (fun k=>of_decide_eq_false hc (fun e=>k (bs_inj (m:=[]) e))),Bool.false_and]),rfl,trivial⟩
 · refine G.ret Tryz.func48 rfl rfl ?_;exact⟨_,rfl,rfl,rfl⟩
theorem kindT_row {m:Nat}(hm:m<3){i:Nat}:(tabR m)[i]?.map (fun r=>(r.2.1,r.2.2))=(kindT m)[i]? :=by
 have h:(tabR m).map (fun r=>(r.2.1,r.2.2))=kindT m:=by
  match m,hm with
  | 0,_=>decide
  | 1,_=>decide
  | 2,_=>decide
 rw[←h,List.getElem?_map]
theorem kindT_out {m:Int}(h:m<0∨3≤m):kindT m=[]:=by
 unfold kindT;rw[if_neg (by omega),if_neg (by omega),if_neg (by omega)]
theorem find_leaf {α:Type}{l:List α}{kn:Nat}{n:Int}(hk:l.length=kn) (hn:¬n<0):decide ((kn:Int)≤n)= !(l[n.toNat]?).isSome:=by
 cases hq:l[n.toNat]? with
 |none=>have:=List.getElem?_eq_none_iff.1 hq;simp;omega
 |some v=>have:=(List.getElem?_eq_some_iff.1 hq).1;simp;omega
theorem find_calls (hg:LxG h) (m n:Int):CallsH Tryz.prog 73 #[.int .i64 m,.int .i64 n] h (Ret fun r h'=>(∃x:By×Int×Int,r= .tuple #[.agg (encSII x).toArray,.bool (findT m n).isSome]∧∀p,findT m n=some p→(x.2.1,x.2.2)=p)∧Ext0 h h'):=by
 refine CallsH.of Tryz.func73 rfl rfl ?_;refine xr Tryz.func73 rfl ?_;refine xo rfl (OpX.allocN H.zr93) ?_;rintro _ h1 ⟨rfl,k1,e1,z1⟩;have k1:Blk h1 h.size 93 [.string ⟨#[]⟩,.int .i64 0,.int .i64 0]:=k1
 have hrow:∀mm:Nat,mm<3→∃oa kn kc,cellAt h1 ⟨0,0+mm*1,none⟩=some (.slice oa kn kc)∧Sl eSII h1 (fun _=>False) oa kn kc (tabR mm):=fun mm hmm=>by
  obtain⟨v,hv,hsl⟩:=(hg.rules.ext0 e1) mm hmm;obtain⟨oa,kn,kc,rfl,h2⟩:=hsl.open;exact⟨oa,kn,kc,by rw[Nat.mul_one,Nat.zero_add];exact hv,h2⟩
 have hlenT:∀mm:Nat,mm<3→(tabR mm).length=(kindT mm).length:=fun mm hmm=>by
  match mm,hmm with
  | 0,_=>rfl
  | 1,_=>rfl
  | 2,_=>rfl
 refine xqd 1 [0,1,4,5] rfl ?_;refine G.seq rfl ?_;refine G.seq rfl ?_;refine G.regTo1 [(23,.bool (!(findT m n).isSome))] [(0,_),(1,_),(4,_),(5,_)] ⟨rfl,rfl,rfl,rfl,trivial⟩ Tryz.func73 rfl ?_ ?_
 · refine xqm 3 rfl ?_;refine RW.split (d:=8) rfl (fun c1=>?_) (fun c1=>?_)
   · have c1':=of_decide_eq_true c1;refine xqm 15 rfl ?_;refine RW.done rfl ?_;exact⟨rfl,at_bool rfl (by rw[findT,kindT_out (.inl c1')];simp),rfl,rfl,rfl,rfl,trivial⟩
   · have c1':=of_decide_eq_false c1;refine xqm 4 rfl ?_;refine RW.split (d:=12) rfl (fun c2=>?_) (fun c2=>?_)
     · have c2':=of_decide_eq_true c2;refine xqm 11 rfl ?_;refine RW.done rfl ?_;exact⟨rfl,at_bool rfl (by rw[findT,kindT_out (.inr c2')];simp),rfl,rfl,rfl,rfl,trivial⟩
     · have c2':=of_decide_eq_false c2;refine xqm 4 rfl ?_;refine RW.split (d:=16) rfl (fun c3=>?_) (fun c3=>?_)
       · have c3':=of_decide_eq_true c3;refine xqm 7 rfl ?_;refine RW.done rfl ?_;exact⟨rfl,at_bool rfl (by rw[findT,if_pos c3'];rfl),rfl,rfl,rfl,rfl,trivial⟩
       · have c3':=of_decide_eq_false c3;obtain⟨mm,rfl⟩:=Int.eq_ofNat_of_zero_le (show 0≤m by omega);have hmm:mm<3:=by omega
         obtain⟨oa,kn,kc,hv,hsl⟩:=hrow mm hmm;have hkl:=hsl.len;rw[hlenT mm hmm] at hkl;refine xqp 2 rfl rfl (OpP.indexArr Tryz.underlying94 H.sz91 rfl rfl mm rfl (by omega)) ?_;refine xp rfl (OpP.load H.ag91 rfl hv) ?_;refine xp rfl (OpP.lenSlice Tryz.underlying91 rfl) ?_;refine xqm 2 rfl ?_;refine RW.done rfl ?_;exact⟨rfl,at_bool rfl (by rw[findT,if_neg c3'];exact find_leaf hkl c3'),rfl,rfl,rfl,rfl,trivial⟩
 · rcases hf:findT m n with _|p
   · refine G.cond rfl rfl (fun _=>?_) (fun hc=>absurd hc (by simp));refine xr Tryz.func73 rfl ?_;refine xp rfl (OpP.build (H.bd93_ ) rfl) ?_;refine RW.op0 rfl rfl rfl (OpX.storeBlk H.sz93 rfl rfl k1 (by first|rfl|(simp;done)|(simp;omega)) (by first|decide|exact of_decide_eq_true rfl|(simp;done)|(simp;omega)) (by first|decide|simp[Value.oneCell'])) ?_;rintro _ h2 ⟨rfl,k2,x2,z2⟩;refine xqd 1 [0,1,4,5,23] rfl ?_;have k2:Blk h2 h.size 93 (encSII ([],0,0)):=k2;refine G.retC Tryz.func73 rfl (.cons (ResOk.rowN H.ag93 H.sz93 rfl (k2.row) (by first|rfl|(simp;done)|(simp;omega))) (.cons (ResOk.tmp rfl) (.nil))) ?_;exact⟨_,rfl,⟨([],0,0),rfl,fun p hp=>by cases hp⟩,e1.only x2 (Nat.le_refl _)⟩
   · have hn0:0≤n:=by
      by_cases q:n<0
      · rw[findT,if_pos q] at hf;cases hf
      · omega
     have hm0:0≤m∧m<3:=by
      by_cases q:m<0∨3≤m
      · rw[findT,kindT_out q] at hf;simp at hf
      · omega
     obtain⟨mm,rfl⟩:=Int.eq_ofNat_of_zero_le hm0.1;obtain⟨i,rfl⟩:=Int.eq_ofNat_of_zero_le hn0;have hmm:mm<3:=by omega
     obtain⟨oa,kn,kc,hv,hsl⟩:=hrow mm hmm;have hkl:=hsl.len;rw[findT,if_neg (by omega),Int.toNat_natCast,←kindT_row hmm] at hf;obtain⟨r,hr,hrp⟩:=Option.map_eq_some_iff.1 hf;obtain⟨b3,o3,cs3,ha3,_,hrow3,rfl⟩:=hsl.get i r hr;have hil:=(List.getElem?_eq_some_iff.1 hr).1;refine G.cond rfl rfl (fun hc=>absurd hc (by simp)) (fun _=>?_);refine G.skip rfl ?_;refine xra Tryz.func73 1 rfl ?_;refine xp rfl (OpP.indexArr Tryz.underlying94 H.sz91 rfl rfl mm rfl (by omega)) ?_;refine xp rfl (OpP.load H.ag91 rfl hv) ?_;refine xqp 1 rfl rfl (OpP.indexSlice Tryz.underlying91 H.sz93 rfl rfl i rfl ha3 (by omega)) ?_;refine xp rfl (OpP.loadRowN H.ag93 H.sz93 rfl hrow3 (by first|rfl|(simp;done)|(simp;omega))) ?_;refine RW.op0 rfl rfl rfl (OpX.storeBlk H.sz93 rfl rfl k1 (by first|rfl|(simp;done)|(simp;omega)) (by first|decide|exact of_decide_eq_true rfl|(simp;done)|(simp;omega)) (sii_one r)) ?_;rintro _ h2 ⟨rfl,k2,x2,z2⟩;refine xqd 1 [0,1,4,5,23] rfl ?_;have k2:Blk h2 h.size 93 (encSII r):=k2;refine G.retC Tryz.func73 rfl (.cons (ResOk.rowN H.ag93 H.sz93 rfl (k2.row) (by first|rfl|(simp;done)|(simp;omega))) (.cons (ResOk.tmp rfl) (.nil))) ?_;exact⟨_,rfl,⟨r,rfl,fun p hp=>by cases hp;exact hrp⟩,e1.only x2 (Nat.le_refl _)⟩
theorem kind_calls (hg:LxG h) (m n:Int):CallsH Tryz.prog 47 #[.int .i64 m,.int .i64 n] h (Ret fun r h'=>r= .int .i64 (kindP m n)∧Ext0 h h'):=by
 refine CallsH.of Tryz.func47 rfl rfl ?_;refine xrd Tryz.func47 1 [0,1,4] rfl ?_;refine xra Tryz.func47 2 rfl ?_;refine xo rfl (OpX.call (vs:=[_,_]) Tryz.func73 rfl H.nm73 rfl (CallsH.toX (find_calls hg m n))) ?_;rintro _ h1 ⟨⟨x,rfl,hx⟩,e1⟩;refine xqm 3 rfl ?_;refine xo rfl (OpX.allocN H.zr93) ?_;rintro _ h2 ⟨rfl,k2,e2,z2⟩;refine RW.op0 rfl rfl rfl (OpX.storeBlk H.sz93 rfl rfl k2 (by first|rfl|(simp;done)|(simp;omega)) (by first|decide|exact of_decide_eq_true rfl|(simp;done)|(simp;omega)) (sii_one x)) ?_;rintro _ h3 ⟨rfl,k3,x3,z3⟩;have k3:Blk h3 h1.size 93 (encSII x):=k3;have e3:Ext0 h1 h3:=e2.only x3 (Nat.le_refl _)
 rcases hf:findT m n with _|p
 · refine xqd 1 [0,1,4,5,6] rfl ?_;refine G.seq rfl ?_;refine xrd Tryz.func47 2 [0,1,4,5,6,14] rfl ?_;refine G.cond rfl rfl (fun _=>?_) (fun hc=>absurd hc (by simp));refine xrd Tryz.func47 1 [0,1,4,5,6,14] rfl ?_;refine G.ret Tryz.func47 rfl rfl ?_;exact⟨_,rfl,by rw[kindP,hf];rfl,e1.trans e3⟩
 · have hp:=hx p hf;refine xqd 1 [0,1,4,5,6] rfl ?_;refine G.seq rfl ?_;refine xrd Tryz.func47 2 [0,1,4,5,6,14] rfl ?_;refine G.cond rfl rfl (fun hc=>absurd hc (by simp)) (fun _=>?_);refine G.skip rfl ?_;refine xr Tryz.func47 rfl ?_;refine xp rfl (OpP.fieldAddr (off:=1) Tryz.underlying93 rfl rfl H.sz3 rfl) ?_;refine xp rfl (OpP.load H.ag3 rfl (k3.cell (i:=1) rfl)) ?_;refine xqd 1 [0,1,4,5,6,14] rfl ?_;refine G.ret Tryz.func47 rfl rfl ?_;exact⟨_,rfl,by rw[kindP,hf,←hp];rfl,e1.trans e3⟩
def encLSt (s:LSt):List Value:=[.int .i64 s.1,.int .i64 s.2]
theorem lst_one (s:LSt):∀v∈encLSt s,v.oneCell'=true:=fun v hv=>by simp[encLSt] at hv;rcases hv with rfl|rfl<;>rfl
def I64 (i:Int):Prop:= -9223372036854775808≤i∧i≤9223372036854775807
theorem after_calls (hg:LxG h) (s:LSt) (n:Int) (hs:I64 s.2):CallsH Tryz.prog 49 #[.agg (encLSt s).toArray,.int .i64 n] h (Ret fun r h'=>r= .agg (encLSt (afterP s n)).toArray∧Ext0 h h'):=by
 obtain⟨m,d⟩:=s;obtain⟨hd1,hd2⟩:=hs;simp only at hd1 hd2;refine CallsH.of Tryz.func49 rfl rfl ?_;refine xr Tryz.func49 rfl ?_;refine xo rfl (OpX.boxN rfl) ?_;rintro _ h1 ⟨rfl,k1,e1,z1⟩;refine xo rfl (OpX.allocN H.zr27) ?_;rintro _ h2 ⟨rfl,k2,e2,z2⟩;have k1:Blk h1 h.size 27 [.int .i64 m,.int .i64 d]:=k1;have k2:Blk h2 h1.size 27 [.int .i64 0,.int .i64 0]:=k2;have e02:=e1.trans e2;have q1:=k1.ext0 e2;refine xd [0,1,2,4] rfl ?_;refine xr Tryz.func49 rfl ?_;refine xp rfl (OpP.fieldAddr (off:=0) Tryz.underlying27 rfl rfl H.sz3 rfl) ?_;refine xp rfl (OpP.load H.ag3 rfl (q1.cell (i:=0) rfl)) ?_;refine xqm 1 rfl ?_;refine xo rfl (OpX.call (vs:=[_,_]) Tryz.func73 rfl H.nm73 rfl (CallsH.toX (find_calls (hg.ext0 e02) m n))) ?_;rintro _ h3 ⟨⟨x,rfl,hx⟩,e3⟩;refine xqm 3 rfl ?_;refine xo rfl (OpX.allocN H.zr93) ?_;rintro _ h4 ⟨rfl,k4,e4,z4⟩;refine RW.op0 rfl rfl rfl (OpX.storeBlk H.sz93 rfl rfl k4 (by first|rfl|(simp;done)|(simp;omega)) (by first|decide|exact of_decide_eq_true rfl|(simp;done)|(simp;omega)) (sii_one x)) ?_;rintro _ h5 ⟨rfl,k5,x5,z5⟩;have k5:Blk h5 h3.size 93 (encSII x):=k5;have e45:Ext0 h3 h5:=e4.only x5 (Nat.le_refl _);have e25:=e3.trans e45;have e05:=e02.trans e25;have s1:=q1.ext0 e25;have s2:=k2.ext0 e25;have hz1:=e1.size;have hz2:=e2.size;have hz5:=e25.size;have hne:¬h.size=h1.size:=by omega
 have hout:∀{g:Heap},Ext (fun b=>b=h1.size) h5 g→Ext0 h g:=fun e=>Ext0.only e05 e hz1
 rcases hf:findT m n with _|p
 · have haf:afterP (m,d) n=(m,d):=by unfold afterP;rw[hf]
   refine xqd 1 [0,1,2,4,5,6] rfl ?_;refine G.seq rfl ?_;refine G.block rfl rfl ?_;refine G.seq rfl ?_;refine xrd Tryz.func49 3 [0,1,2,4,5,6,14] rfl ?_;refine G.cond rfl rfl (fun _=>?_) (fun hc=>absurd hc (by simp));refine G.skip rfl ?_;refine G.cond rfl rfl (fun _=>?_) (fun hc=>absurd hc (by simp));refine xr Tryz.func49 rfl ?_;refine xp rfl (OpP.loadRowN H.ag27 H.sz27 rfl s1.row (by first|rfl|(simp;done)|(simp;omega))) ?_;refine RW.op0 rfl rfl rfl (OpX.storeBlk H.sz27 rfl rfl s2 (by first|rfl|(simp;done)|(simp;omega)) (by first|decide|exact of_decide_eq_true rfl|(simp;done)|(simp;omega)) (by first|decide|simp[Value.oneCell'])) ?_;rintro _ h6 ⟨rfl,k6,x6,z6⟩;refine xd [0,1,2,4,5,6,14] rfl ?_;have k6:Blk h6 h1.size 27 (encLSt (m,d)):=k6;refine G.retC Tryz.func49 rfl (.cons (ResOk.rowN H.ag27 H.sz27 rfl (k6.row) (by first|rfl|(simp;done)|(simp;omega))) (.nil)) ?_;exact⟨_,rfl,by rw[haf];rfl,hout x6⟩
 · have hp:=hx p hf;obtain⟨hp1,hp2⟩:=Prod.mk.inj hp;have haf:afterP (m,d) n=if x.2.2=0 then (m,d) else if x.2.2=1 then (1,0) else if x.2.2=3 then (2,min (max d 0) 16383+1) else if x.2.2=4∧1<d then (m,d-1) else (0,0):=by unfold afterP;rw[hf,←hp]
   refine xqd 1 [0,1,2,4,5,6] rfl ?_;refine G.seq rfl ?_;refine G.block rfl rfl ?_;refine G.seq rfl ?_;refine xrd Tryz.func49 3 [0,1,2,4,5,6,14] rfl ?_;refine G.cond rfl rfl (fun hc=>absurd hc (by simp)) (fun _=>?_);refine G.reg Tryz.func49 rfl ?_;refine xp rfl (OpP.fieldAddr (off:=2) Tryz.underlying93 rfl rfl H.sz3 rfl) ?_;refine xp rfl (OpP.load H.ag3 rfl (k5.cell (i:=2) rfl)) ?_;refine xqd 2 [0,1,2,4,5,6,14] rfl ?_;refine G.ite rfl rfl (fun h0=>?_) (fun h0=>?_)
   · rw[if_pos h0] at haf;refine xr Tryz.func49 rfl ?_;refine xp rfl (OpP.loadRowN H.ag27 H.sz27 rfl s1.row (by first|rfl|(simp;done)|(simp;omega))) ?_;refine RW.op0 rfl rfl rfl (OpX.storeBlk H.sz27 rfl rfl s2 (by first|rfl|(simp;done)|(simp;omega)) (by first|decide|exact of_decide_eq_true rfl|(simp;done)|(simp;omega)) (by first|decide|simp[Value.oneCell'])) ?_;rintro _ h6 ⟨rfl,k6,x6,z6⟩;refine xd [0,1,2,4,5,6,14] rfl ?_;have k6:Blk h6 h1.size 27 (encLSt (m,d)):=k6;refine G.retC Tryz.func49 rfl (.cons (ResOk.rowN H.ag27 H.sz27 rfl (k6.row) (by first|rfl|(simp;done)|(simp;omega))) (.nil)) ?_;exact⟨_,rfl,by rw[haf];rfl,hout x6⟩
   · rw[if_neg h0] at haf;refine xr Tryz.func49 rfl ?_;refine xp rfl (OpP.fieldAddr (off:=2) Tryz.underlying93 rfl rfl H.sz3 rfl) ?_;refine xp rfl (OpP.load H.ag3 rfl (k5.cell (i:=2) rfl)) ?_;refine xqd 2 [0,1,2,4,5,6,14,21] rfl ?_;refine G.ite rfl rfl (fun h1'=>?_) (fun h1'=>?_)
     · rw[if_pos h1'] at haf;refine xr Tryz.func49 rfl ?_;refine xp rfl (OpP.build (H.bd27_0 _) rfl) ?_;refine RW.op0 rfl rfl rfl (OpX.storeBlk H.sz27 rfl rfl s2 (by first|rfl|(simp;done)|(simp;omega)) (by first|decide|exact of_decide_eq_true rfl|(simp;done)|(simp;omega)) (by first|decide|simp[Value.oneCell'])) ?_;rintro _ h6 ⟨rfl,k6,x6,z6⟩;refine xd [0,1,2,4,5,6,14,21] rfl ?_;have k6:Blk h6 h1.size 27 (encLSt (1,0)):=k6;refine G.retC Tryz.func49 rfl (.cons (ResOk.rowN H.ag27 H.sz27 rfl (k6.row) (by first|rfl|(simp;done)|(simp;omega))) (.nil)) ?_;exact⟨_,rfl,by rw[haf];rfl,hout x6⟩
     · rw[if_neg h1'] at haf;refine xr Tryz.func49 rfl ?_;refine xp rfl (OpP.fieldAddr (off:=2) Tryz.underlying93 rfl rfl H.sz3 rfl) ?_;refine xp rfl (OpP.load H.ag3 rfl (k5.cell (i:=2) rfl)) ?_;refine xqd 2 [0,1,2,4,5,6,14,21,26] rfl ?_;refine G.ite rfl rfl (fun h3'=>?_) (fun h3'=>?_)
       · rw[if_pos h3'] at haf;refine xr Tryz.func49 rfl ?_;refine xp rfl (OpP.fieldAddr (off:=1) Tryz.underlying27 rfl rfl H.sz3 rfl) ?_;refine xp rfl (OpP.load H.ag3 rfl (s1.cell (i:=1) rfl)) ?_;refine xp rfl (OpP.max2 rfl rfl) ?_;refine xp rfl (OpP.min2 rfl rfl) ?_;refine xp rfl (OpP.add64 rfl rfl ⟨by omega,by omega⟩) ?_;refine xp rfl (OpP.build (H.bd27_0_1 _ _) rfl) ?_;refine RW.op0 rfl rfl rfl (OpX.storeBlk H.sz27 rfl rfl s2 (by first|rfl|(simp;done)|(simp;omega)) (by first|decide|exact of_decide_eq_true rfl|(simp;done)|(simp;omega)) (by first|decide|simp[Value.oneCell'])) ?_;rintro _ h6 ⟨rfl,k6,x6,z6⟩;refine xd [0,1,2,4,5,6,14,21,26] rfl ?_;have hmm:(if (16383:Int)<if d<0 then 0 else d then 16383 else if d<0 then 0 else d)=min (max d 0) 16383:=by split<;>split<;>omega
         have k6:Blk h6 h1.size 27 (encLSt (2,min (max d 0) 16383+1)):=by rw[←hmm];exact k6
         refine G.retC Tryz.func49 rfl (.cons (ResOk.rowN H.ag27 H.sz27 rfl (k6.row) (by first|rfl|(simp;done)|(simp;omega))) (.nil)) ?_;exact⟨_,rfl,by rw[haf];rfl,hout x6⟩
       · rw[if_neg h3'] at haf;refine G.seq rfl ?_;refine G.regTo1 [(36,.bool (decide (x.2.2=4∧1<d)))] [(0,_),(1,_),(2,_),(4,_),(5,_),(6,_),(14,_),(21,_),(26,_)] ⟨rfl,rfl,rfl,rfl,rfl,rfl,rfl,rfl,rfl,trivial⟩ Tryz.func49 rfl ?_ ?_
         · refine xp rfl (OpP.fieldAddr (off:=2) Tryz.underlying93 rfl rfl H.sz3 rfl) ?_;refine xp rfl (OpP.load H.ag3 rfl (k5.cell (i:=2) rfl)) ?_;refine xqm 2 rfl ?_;refine RW.split (d:=40) rfl (fun hc=>?_) (fun hc=>?_)
           · have hc':=of_decide_eq_true hc;refine xp rfl (OpP.fieldAddr (off:=1) Tryz.underlying27 rfl rfl H.sz3 rfl) ?_;refine xp rfl (OpP.load H.ag3 rfl (s1.cell (i:=1) rfl)) ?_;refine xqm 3 rfl ?_;refine RW.done rfl ?_;exact⟨rfl,at_bool rfl (by simp[hc']),rfl,rfl,rfl,rfl,rfl,rfl,rfl,rfl,rfl,trivial⟩
           · have hc':=of_decide_eq_false hc;refine xqm 5 rfl ?_;refine RW.done rfl ?_;exact⟨rfl,at_bool rfl (by simp[hc']),rfl,rfl,rfl,rfl,rfl,rfl,rfl,rfl,rfl,trivial⟩
         · refine G.ite rfl rfl (fun h4'=>?_) (fun h4'=>?_)
           · rw[if_pos h4'] at haf;refine xr Tryz.func49 rfl ?_;refine xp rfl (OpP.fieldAddr (off:=1) Tryz.underlying27 rfl rfl H.sz3 rfl) ?_;refine xp rfl (OpP.load H.ag3 rfl (s1.cell (i:=1) rfl)) ?_;refine xp rfl (OpP.sub64 rfl rfl ⟨by omega,by omega⟩) ?_;refine xp rfl (OpP.fieldAddr (off:=1) Tryz.underlying27 rfl rfl H.sz3 rfl) ?_;refine RW.op0 rfl rfl rfl (OpX.store H.sz3 rfl rfl rfl (s1.cell (i:=1) rfl) s1.nf) ?_;rintro _ h6 ⟨rfl,hg6⟩;have s6:=s1.set 1 (.int .i64 (d-1));have x6:Ext (fun b=>b=h.size) h5 h6:=by rw[hg6];exact Ext.setC _ _ _ rfl
             have s6:Blk h6 h.size 27 (encLSt (m,d-1)):=by rw[hg6];exact s6
             refine xd [0,1,2,4,5,6,14,21,26,36] rfl ?_;refine xr Tryz.func49 rfl ?_;refine xp rfl (OpP.loadRowN H.ag27 H.sz27 rfl s6.row (by first|rfl|(simp;done)|(simp;omega))) ?_;refine RW.op0 rfl rfl rfl (OpX.storeBlk H.sz27 rfl rfl (s2.ext x6 (fun k=>by omega)) (by first|rfl|(simp;done)|(simp;omega)) (by first|decide|exact of_decide_eq_true rfl|(simp;done)|(simp;omega)) (lst_one _)) ?_;rintro _ h7 ⟨rfl,k7,x7,z7⟩;refine xd [0,1,2,4,5,6,14,21,26,36] rfl ?_;have k7:Blk h7 h1.size 27 (encLSt (m,d-1)):=k7;refine G.retC Tryz.func49 rfl (.cons (ResOk.rowN H.ag27 H.sz27 rfl (k7.row) (by first|rfl|(simp;done)|(simp;omega))) (.nil)) ?_;have hz6:=x6.size;exact⟨_,rfl,by rw[haf];rfl,Ext0.only (Ext0.only e05 x6 (Nat.le_refl _)) x7 hz1⟩
           · rw[if_neg h4'] at haf;refine G.skip rfl ?_;refine G.blkEnd ?_;refine xr Tryz.func49 rfl ?_;refine xp rfl (OpP.build (H.bd27_ ) rfl) ?_;refine RW.op0 rfl rfl rfl (OpX.storeBlk H.sz27 rfl rfl s2 (by first|rfl|(simp;done)|(simp;omega)) (by first|decide|exact of_decide_eq_true rfl|(simp;done)|(simp;omega)) (by first|decide|simp[Value.oneCell'])) ?_;rintro _ h6 ⟨rfl,k6,x6,z6⟩;refine xd [0,1,2,4,5,6,14,21,26,36] rfl ?_;have k6:Blk h6 h1.size 27 (encLSt (0,0)):=k6;refine G.retC Tryz.func49 rfl (.cons (ResOk.rowN H.ag27 H.sz27 rfl (k6.row) (by first|rfl|(simp;done)|(simp;omega))) (.nil)) ?_;exact⟨_,rfl,by rw[haf];rfl,hout x6⟩
theorem cnext_calls (hg:LxG h) (s:By) (k:Nat) (hk:k<s.length) (hs:s.length≤1000000):CallsH Tryz.prog 46 #[.string (bs s),.int .i64 (k:Nat)] h (Ret fun r h'=>(∃(x:Nat) (ok:Bool),r= .tuple #[.int .i32 (x:Nat),.int .i64 (runeN (s.drop k):Nat),.bool ok])∧Ext0 h h'):=by
 have hbs:=bs_size s;have hne:s.drop k≠[]:=fun e=>by have:=congrArg List.length e;rw[List.length_drop] at this;simp at this;omega
 refine CallsH.of Tryz.func46 rfl rfl ?_;refine xrd Tryz.func46 3 [0,1,4,5,6] rfl ?_;refine G.seq rfl ?_;refine G.seq rfl ?_;refine G.regTo1 [(14,.bool false)] [(0,_),(1,_),(4,_),(5,_),(6,_)] ⟨rfl,rfl,rfl,rfl,rfl,trivial⟩ Tryz.func46 rfl ?_ ?_
 · refine xqm 3 rfl ?_;refine RW.know (d:=9) (b':=false) rfl ((by simp)) ?_;refine xqp 2 rfl rfl (OpP.lenString Tryz.underlying9 rfl) ?_;refine xqm 2 rfl ?_;refine RW.done rfl ?_;exact⟨rfl,at_bool rfl (by simp;omega),rfl,rfl,rfl,rfl,rfl,trivial⟩
 · refine G.cond rfl rfl (fun hc=>absurd hc (by decide)) (fun _=>?_);refine G.skip rfl ?_;refine xra Tryz.func46 2 rfl ?_;refine xp rfl (OpP.sliceStrLo Tryz.underlying9 rfl rfl k rfl (by omega)) ?_;rw[bs_drop];refine xo rfl (OpX.call (vs:=[_]) Tryz.func72 rfl H.nm72 rfl (CallsH.toX (decode_calls hg (s.drop k) hne))) ?_;rintro _ h1 ⟨⟨x,rfl⟩,e1⟩;generalize hn:runeN (s.drop k)=n;refine xqd 5 [0,1,4,5,6,14] rfl ?_;refine G.seq rfl ?_;refine G.regTo1 [(4,.int .i32 (x:Nat)),(5,.int .i64 (n:Nat)),(6,.bool (decide (¬(x:Int)=65533∨(1:Int)<n)))] [(0,_),(1,_),(14,_)] ⟨rfl,rfl,rfl,trivial⟩ Tryz.func46 rfl ?_ ?_
   · refine xqm 5 rfl ?_;refine RW.split (d:=26) rfl (fun hc=>?_) (fun hc=>?_)
     · have hc':=of_decide_eq_true hc;refine xqm 6 rfl ?_;refine RW.done rfl ?_;exact⟨rfl,rfl,rfl,at_bool rfl (by rw[decide_eq_true (Or.inl hc')]),rfl,rfl,rfl,trivial⟩
     · have hc':=of_decide_eq_false hc;refine xqm 6 rfl ?_;refine RW.done rfl ?_;exact⟨rfl,rfl,rfl,at_bool rfl (by simp only[decide_eq_decide];exact⟨fun q=>.inr q,fun q=>q.resolve_left hc'⟩),rfl,rfl,rfl,trivial⟩
   · refine G.ret Tryz.func46 rfl rfl ?_;exact⟨_,rfl,⟨x,_,rfl⟩,e1⟩
theorem lnone_at (k:LexAt h p):CallsH Tryz.prog 44 #[p] h (Ret fun r h'=>r= .bool false∧h'=h):=by
 obtain⟨lb,vm,rfl,hk,⟨oa,n,c,rfl,hl,_⟩⟩:=k;have hl:n=3:=by rw[←hl];rfl
 subst hl;refine CallsH.of Tryz.func44 rfl rfl ?_;refine xrd Tryz.func44 1 [0,2] rfl ?_;refine G.seq rfl ?_;refine G.regTo1 [(2,.bool false)] [(0,_)] ⟨rfl,trivial⟩ Tryz.func44 rfl ?_ ?_
 · refine xqp 1 rfl rfl (OpP.eqlNil Tryz.underlying38 rfl rfl) ?_;refine xqm 1 rfl ?_;refine RW.know (d:=5) (b':=false) rfl (rfl) ?_;refine xqp 2 rfl rfl (OpP.fieldAddr (off:=0) Tryz.underlying52 rfl rfl H.sz50 rfl) ?_;refine xp rfl (OpP.load H.ag50 rfl (hk.cell (i:=0) rfl)) ?_;refine xp rfl (OpP.lenSlice Tryz.underlying50 rfl) ?_;refine xqm 3 rfl ?_;refine RW.done rfl ?_;exact⟨rfl,at_bool rfl (rfl),rfl,trivial⟩
 · refine G.ret Tryz.func44 rfl rfl ?_;exact⟨_,rfl,rfl,rfl⟩
def lexS (m:Int) (l:By):Int:=if 0≤m∧m<3 then (dmatchG (minP (lexD m)) l 0 0 (0,-1)).2.2 else 0
theorem lex_match (m:Nat) (hm:m<3) (s:By) (k:Nat) (hk:k≤s.length):dmatchA (minP (lexD m)) s k=((lexM m (s.drop k)).1,(lexM m (s.drop k)).2,lexS m (s.drop k)):=by
 obtain⟨ss,st,h1,h2,h3,h4,h5⟩:=lex_made m hm;have hok:=dmadeP_ok h2;have hsp:=minP_spec hok.1 hok.2;have htl:=table_like hok.1 hsp.1 hsp.2.2.2.2 hok.2 hsp.2.1 (fun w=>(hsp.2.2.2.1 w).symm) s k;have htm:=table_match h2 s k;have hst:=(makeP_made h1).stl
 have hM:matchM (rulesM m) s k=lexM m (s.drop k):=by
  unfold matchM matchA;rw[h1];simp only;rw[if_neg (by omega),Int.toNat_natCast,h4]
 rw[hM] at htm
 have hA:(dmatchA (minP (lexD m)) s k).2.2=lexS m (s.drop k):=by
  rw[lexS,if_pos (show (0:Int)≤m∧(m:Int)<3 by omega),dmatchA,if_neg (by have:=hsp.2.1;omega),Int.toNat_natCast]
 rw[←hA];refine Prod.ext ?_ (Prod.ext ?_ rfl)
 · rw[←htl.1];exact(Prod.mk.inj htm).1
 · rw[←htl.2.1];exact(Prod.mk.inj htm).2
theorem lexM_out {m:Int}(h:m<0∨3≤m) (l:By):lexM m l=(0,-1):=by
 unfold lexM;rw[if_neg (by omega),if_neg (by omega),if_neg (by omega)]
theorem lmatch_calls (k:LexAt h p) (s:By) (i:Nat) (hi:i≤s.length) (hs:s.length≤1000000) (m:Int) :
 CallsH Tryz.prog 45 #[p,.string (bs s),.int .i64 (i:Nat),.int .i64 m] h (Ret fun r h'=>r= .tuple #[.int .i64 (lexM m (s.drop i)).1,.int .i64 (lexM m (s.drop i)).2,.int .i64 (lexS m (s.drop i))]∧h'=h):=by
 obtain⟨lb,vm,rfl,hk,hv⟩:=k;obtain⟨oa,n,c,rfl,hsl⟩:=hv.open;have hl:n=3:=by rw[←hsl.len];rfl
 subst hl;refine CallsH.of Tryz.func45 rfl rfl ?_;refine xrd Tryz.func45 3 [0,1,2,3,8,9,10] rfl ?_;refine G.seq rfl ?_;refine G.seq rfl ?_;refine G.regTo1 [(21,.bool (decide (m<0∨3≤m)))] [(0,_),(1,_),(2,_),(3,_),(8,_),(9,_),(10,_)] ⟨rfl,rfl,rfl,rfl,rfl,rfl,rfl,trivial⟩ Tryz.func45 rfl ?_ ?_
 · refine xqm 3 rfl ?_;refine RW.split (d:=13) rfl (fun hc=>?_) (fun hc=>?_)
   · have hc':=of_decide_eq_true hc;refine xqm 8 rfl ?_;refine RW.done rfl ?_;exact⟨rfl,at_bool rfl (by simp[hc']),rfl,rfl,rfl,rfl,rfl,rfl,rfl,trivial⟩
   · have hc':=of_decide_eq_false hc;refine xqp 3 rfl rfl (OpP.fieldAddr (off:=0) Tryz.underlying52 rfl rfl H.sz50 rfl) ?_;refine xp rfl (OpP.load H.ag50 rfl (hk.cell (i:=0) rfl)) ?_;refine xp rfl (OpP.lenSlice Tryz.underlying50 rfl) ?_;refine xqm 2 rfl ?_;refine RW.done rfl ?_;exact⟨rfl,at_bool rfl (by simp only[decide_eq_decide];omega),rfl,rfl,rfl,rfl,rfl,rfl,rfl,trivial⟩
 · refine G.ite rfl rfl (fun hout=>?_) (fun hout=>?_)
   · rw[lexM_out hout];refine xrd Tryz.func45 3 [0,1,2,3,8,9,10,21] rfl ?_;refine G.ret Tryz.func45 rfl rfl ?_;exact⟨_,rfl,by rw[lexS,if_neg (by omega)];rfl,rfl⟩
   · obtain⟨mm,rfl⟩:=Int.eq_ofNat_of_zero_le (show 0≤m by omega);have hmm:mm<3:=by omega
     have hx:(lexTs 3)[mm]? =some (minP (lexD mm)):=by
      match mm,hmm with
      | 0,_=>rfl
      | 1,_=>rfl
      | 2,_=>rfl
     obtain⟨b3,o3,cs3,ha3,_,hrow3,db,rfl,htab⟩:=hsl.get mm _ hx;obtain⟨ss,st,h1,h2,h3,h4,h5⟩:=lex_made mm hmm;have hok:=dmadeP_ok h2;have hsp:=minP_spec hok.1 hok.2;refine G.skip rfl ?_;refine xra Tryz.func45 2 rfl ?_;refine xp rfl (OpP.fieldAddr (off:=0) Tryz.underlying52 rfl rfl H.sz50 rfl) ?_;refine xp rfl (OpP.load H.ag50 rfl (hk.cell (i:=0) rfl)) ?_;refine xqp 1 rfl rfl (OpP.indexSlice Tryz.underlying50 H.sz58 rfl rfl mm rfl ha3 (by omega)) ?_;refine xp rfl (OpP.load H.ag58 rfl (hrow3 0 _ rfl)) ?_;refine xqm 2 rfl ?_;refine xo rfl (OpX.call (vs:=[_,_,_]) Tryz.func71 rfl H.nm71 rfl (CallsH.toX (dmatch_calls (s:=s) (a:=(i:Int)) (.inr ⟨db,rfl,htab.rd⟩) hsp.1 hs))) ?_;rintro _ h0 ⟨rfl,hh0⟩;subst hh0;rw[lex_match mm hmm s i hi];refine xqd 6 [0,1,2,3,8,9,10,21] rfl ?_;refine G.ret Tryz.func45 rfl rfl ?_;exact⟨_,rfl,rfl,rfl⟩
def encTk (t:Tk):List Value:=[.int .i64 t.1,.int .i64 t.2.1,.int .i64 t.2.2]
theorem tk_one (t:Tk):∀v∈encTk t,v.oneCell'=true:=fun v hv=>by simp[encTk] at hv;rcases hv with rfl|rfl|rfl<;>rfl
theorem after_I64 {s:LSt}(h:I64 s.2) (n:Int):I64 (afterP s n).2:=by
 unfold I64 at *;unfold afterP;split
 · exact h
 · split
   · exact h
   · split
     · simp only;omega
     · split
       · simp only;omega
       · split
         · simp only;omega
         · simp only;omega
theorem nxt_I64 {s:LSt}(h:I64 s.2) (l:By):I64 (nxtP l s).2:=by
 unfold nxtP;split
 · exact h
 · exact after_I64 h _
theorem same_ext {h':Heap}{b:Nat}{t:TypeId}{cs:List Value}(k:Blk h b t cs) (k':Blk h' b t cs) (e:Ext (fun x=>x=b) h h'):Ext0 h h':=⟨e.size,fun x hx _=>by
 by_cases q:x=b
 · subst q;exact k'.trans k.symm
 · exact e.block x hx q⟩
def oneV (s:By) (i:Nat) (st:LSt):Value:=.tuple #[.agg (encTk (kndP (s.drop i) st.1,(i:Int),((i+lenP (s.drop i) st.1:Nat):Int))).toArray,.agg (encLSt (nxtP (s.drop i) st)).toArray,.int .i64 (lexS st.1 (s.drop i))]
theorem one_calls (hg:LxG h) (k:LexAt h p) (s:By) (i:Nat) (hi:i<s.length) (hs:s.length≤1000000) (st:LSt) (hst:I64 st.2) :
 CallsH Tryz.prog 25 #[p,.string (bs s),.int .i64 (i:Nat),.agg (encLSt st).toArray] h (Ret fun r h'=>r=oneV s i st∧Ext0 h h'):=by
 have hbs:=bs_size s;unfold oneV;have hne:s.drop i≠[]:=fun e=>by have:=congrArg List.length e;rw[List.length_drop] at this;simp at this;omega
 have hll:=lexM_len st.1 (s.drop i);have hrl:=rune_len hne;rw[List.length_drop] at hll hrl;refine CallsH.of Tryz.func25 rfl rfl ?_;refine xr Tryz.func25 rfl ?_;refine xo rfl (OpX.boxN rfl) ?_;rintro _ h1 ⟨rfl,k7,e1,z1⟩;refine xo rfl (OpX.allocN H.zr35) ?_;rintro _ h2 ⟨rfl,k8,e2,z2⟩;refine xo rfl (OpX.allocN H.zr27) ?_;rintro _ h3 ⟨rfl,k9,e3,z3⟩;have k7:Blk h1 h.size 27 (encLSt st):=k7;have k8:Blk h2 h1.size 35 (encTk (0,0,0)):=k8;have k9:Blk h3 h2.size 27 (encLSt (0,0)):=k9;have e03:=(e1.trans e2).trans e3;have q7:=(k7.ext0 e2).ext0 e3;have q8:=k8.ext0 e3;have y1:=e1.size;have y2:=e2.size;have hout:∀{g g2 g3:Heap},Ext0 h3 g→Ext (fun b=>b=h1.size) g g2→Ext (fun b=>b=h2.size) g2 g3→Ext0 h g3:=fun ea eb ec=>Ext0.only (Ext0.only (e03.trans ea) eb (by omega)) ec (by omega)
 refine xqd 1 [0,1,2,3,7,8,9,10] rfl ?_;refine G.seq rfl ?_;refine G.seq rfl ?_;refine G.regTo1 [(27,.bool false)] [(0,_),(1,_),(2,_),(3,_),(7,_),(8,_),(9,_),(10,_)] ⟨rfl,rfl,rfl,rfl,rfl,rfl,rfl,rfl,trivial⟩ Tryz.func25 rfl ?_ ?_
 · refine xqm 1 rfl ?_;refine xo rfl (OpX.call (vs:=[_]) Tryz.func44 rfl H.nm44 rfl (CallsH.toX (lnone_at (k.ext0 e03)))) ?_;rintro _ h4 ⟨rfl,hh4⟩;subst hh4;refine xqm 1 rfl ?_;refine RW.know (d:=18) (b':=false) rfl (rfl) ?_;refine xqm 4 rfl ?_;refine RW.know (d:=22) (b':=false) rfl ((by simp)) ?_;refine xqp 2 rfl rfl (OpP.lenString Tryz.underlying9 rfl) ?_;refine xqm 2 rfl ?_;refine RW.done rfl ?_;exact⟨rfl,at_bool rfl (by simp;omega),rfl,rfl,rfl,rfl,rfl,rfl,rfl,rfl,trivial⟩
 · refine G.cond rfl rfl (fun hc=>absurd hc (by decide)) (fun _=>?_);refine G.skip rfl ?_;refine xra Tryz.func25 3 rfl ?_;refine xp rfl (OpP.fieldAddr (off:=0) Tryz.underlying27 rfl rfl H.sz3 rfl) ?_;refine xp rfl (OpP.load H.ag3 rfl (q7.cell (i:=0) rfl)) ?_;refine xo rfl (OpX.call (vs:=[_,_,_,_]) Tryz.func45 rfl H.nm45 rfl (CallsH.toX (lmatch_calls (k.ext0 e03) s i (by omega) hs st.1))) ?_;rintro _ h4 ⟨rfl,hh4⟩;subst hh4;refine xqd 7 [0,1,2,3,7,8,9,10,11,12,27] rfl ?_;refine G.seq rfl ?_;refine xrd Tryz.func25 2 [0,1,2,3,7,8,9,10,11,12,27,41] rfl ?_;refine G.ite rfl rfl (fun hz=>?_) (fun hz=>?_)
   · have hlen:lenP (s.drop i) st.1=runeN (s.drop i):=by rw[lenP,if_pos hz]
     have hknd:kndP (s.drop i) st.1=0:=by rw[kndP,if_pos hz]
     have hnxt:nxtP (s.drop i) st=st:=by rw[nxtP,if_pos hz]
     rw[hlen,hknd,hnxt];refine xra Tryz.func25 2 rfl ?_;refine xo rfl (OpX.call (vs:=[_,_]) Tryz.func46 rfl H.nm46 rfl (CallsH.toX (cnext_calls (hg.ext0 e03) s i hi hs))) ?_;rintro _ h5 ⟨⟨x,ok,rfl⟩,e5⟩;have r7:=q7.ext0 e5;have r8:=q8.ext0 e5;have r9:=k9.ext0 e5;have y5:=e5.size;have hM7:¬(h.size=h1.size∨h.size=h2.size∨Array.size h5≤h.size):=by have:=e03.size;omega
     refine xqd 7 [0,1,2,3,7,8,9,10,11,12,14,27,41] rfl ?_;refine G.seq rfl ?_;refine G.draw (fun b=>b=Array.size h1∨b=Array.size h2∨Array.size h5≤b) (fun i=>Nat.blt i 9) (sz:=10) (listed:= #[false,false,false,false,false,false,false,false,false,false]) Tryz.func25 H.mixed rfl rfl rfl ?_;refine xtq 0 1 (by kernel_rfl) rfl ?_;refine xtq 1 3 (by kernel_rfl) rfl ?_;refine xtq 2 7 (by kernel_rfl) rfl ?_;refine xtp 3 15 (by kernel_rfl) rfl (fun h' e=>OpP.add64 rfl rfl ⟨by omega,by omega⟩) ?_;refine xtp 4 31 (by kernel_rfl) rfl (fun h' e=>OpP.build (H.bd35_0_1_2 _ _ _) rfl) ?_;refine xtp 5 63 (by kernel_rfl) rfl (fun h' e=>OpP.loadRowN H.ag27 H.sz27 rfl (e.rowAt hM7 r7.row) (by first|rfl|(simp;done)|(simp;omega))) ?_;refine xtq 6 127 (by kernel_rfl) rfl ?_;refine xt0 7 255 (by kernel_rfl) rfl (OpX.storeBlk H.sz35 rfl rfl r8 (by first|rfl|(simp;done)|(simp;omega)) (by first|decide|exact of_decide_eq_true rfl|(simp;done)|(simp;omega)) (by first|decide|simp[Value.oneCell'])) ?_;rintro _ h6 ⟨rfl,w8,x6,z6⟩;refine⟨fun _=>x6.mono (fun _ _ k=>.inl k),?_⟩;refine xt0 8 511 (by kernel_rfl) rfl (OpX.storeBlk H.sz27 rfl rfl (r9.ext x6 (fun k=>by omega)) (by first|rfl|(simp;done)|(simp;omega)) (by first|decide|exact of_decide_eq_true rfl|(simp;done)|(simp;omega)) (lst_one st)) ?_;rintro _ h7 ⟨rfl,w9,x7,z7⟩;refine⟨fun _=>x7.mono (fun _ _ k=>.inr (.inl k)),?_⟩;have w8:Blk h6 h1.size 35 (encTk (0,(i:Int),((i+runeN (s.drop i):Nat):Int))):=by rw[Int.natCast_add];exact w8
     have w8:=w8.ext x7 (show ¬h1.size=h2.size by omega);have w9:Blk h7 h2.size 27 (encLSt st):=w9;refine xtq 9 1023 (by kernel_rfl) rfl ?_;refine RD.done (by kernel_rfl) ?_;refine xu [0,1,2,3,7,8,9,10,11,12,14,27,41] rfl ?_;refine G.retC Tryz.func25 rfl (.cons (ResOk.rowN H.ag35 H.sz35 rfl (w8.row) (by first|rfl|(simp;done)|(simp;omega))) (.cons (ResOk.rowN H.ag27 H.sz27 rfl (w9.row) (by first|rfl|(simp;done)|(simp;omega))) (.cons (ResOk.tmp rfl) (.nil)))) ?_;exact⟨_,rfl,rfl,hout e5 x6 x7⟩
   · obtain⟨L,hL⟩:=Int.eq_ofNat_of_zero_le hll.1;have hL0:0<L:=by omega
     have hlen:lenP (s.drop i) st.1=L:=by rw[lenP,if_neg hz,hL];rfl
     have hknd:kndP (s.drop i) st.1=if kindP st.1 (lexM st.1 (s.drop i)).2=3∧wordP ((s.drop i).take L)=true then 4 else kindP st.1 (lexM st.1 (s.drop i)).2:=by rw[kndP,if_neg hz,hL];rfl
     have hnxt:nxtP (s.drop i) st=afterP st (lexM st.1 (s.drop i)).2:=by rw[nxtP,if_neg hz]
     rw[hlen,hknd,hnxt,hL];generalize (lexM st.1 (s.drop i)).2=rl at *;rw[hL] at hll;refine G.skip rfl ?_;refine xr Tryz.func25 rfl ?_;refine xp rfl (OpP.fieldAddr (off:=0) Tryz.underlying27 rfl rfl H.sz3 rfl) ?_;refine xp rfl (OpP.load H.ag3 rfl (q7.cell (i:=0) rfl)) ?_;refine xqm 1 rfl ?_;refine xo rfl (OpX.call (vs:=[_,_]) Tryz.func47 rfl H.nm47 rfl (CallsH.toX (kind_calls (hg.ext0 e03) st.1 rl))) ?_;rintro _ h5 ⟨rfl,e5⟩;refine xqp 3 rfl rfl (OpP.add64 rfl rfl ⟨by omega,by omega⟩) ?_;refine xp rfl (OpP.build (H.bd35_0_1_2 _ _ _) rfl) ?_;refine RW.op0 rfl rfl rfl (OpX.storeBlk H.sz35 rfl rfl (q8.ext0 e5) (by first|rfl|(simp;done)|(simp;omega)) (by first|decide|exact of_decide_eq_true rfl|(simp;done)|(simp;omega)) (by first|decide|simp[Value.oneCell'])) ?_;rintro _ h6 ⟨rfl,w8,x6,z6⟩;have w8:Blk h6 h1.size 35 (encTk (kindP st.1 rl,(i:Int),((i+L:Nat):Int))):=by rw[Int.natCast_add];exact w8
     generalize kindP st.1 rl=kd at *;have hcut:(bs s).extract i (i+L)=bs ((s.drop i).take L):=by rw[bs_part s i (i+L) (by omega),List.drop_take,Nat.add_sub_cancel_left]
     have y6:=x6.size;have e06:Ext0 h h6:=Ext0.only (e03.trans e5) x6 (by omega);have r7:=(q7.ext0 e5).ext x6 (show ¬h.size=h1.size by omega);have r9:=(k9.ext0 e5).ext x6 (show ¬h2.size=h1.size by omega);refine xd [0,1,2,3,7,8,9,10,11,12,27,41] rfl ?_;refine G.seq rfl ?_;refine G.seq rfl ?_;refine G.regTo1 [(76,.bool (decide (kd=3∧wordP ((s.drop i).take L)=true)))] [(0,_),(1,_),(2,_),(3,_),(7,_),(8,_),(9,_),(10,_),(11,_),(12,_),(27,_),(41,_)] ⟨rfl,rfl,rfl,rfl,rfl,rfl,rfl,rfl,rfl,rfl,rfl,rfl,trivial⟩ Tryz.func25 rfl ?_ ?_
     · refine xp rfl (OpP.fieldAddr (off:=0) Tryz.underlying35 rfl rfl H.sz3 rfl) ?_;refine xp rfl (OpP.load H.ag3 rfl (w8.cell (i:=0) rfl)) ?_;refine xqm 2 rfl ?_;refine RW.split (d:=68) rfl (fun hc=>?_) (fun hc=>?_)
       · have hc':kd=3:=of_decide_eq_true hc;refine xqp 1 rfl rfl (OpP.fieldAddr (off:=1) Tryz.underlying35 rfl rfl H.sz3 rfl) ?_;refine xp rfl (OpP.load H.ag3 rfl (w8.cell (i:=1) rfl)) ?_;refine xp rfl (OpP.fieldAddr (off:=2) Tryz.underlying35 rfl rfl H.sz3 rfl) ?_;refine xp rfl (OpP.load H.ag3 rfl (w8.cell (i:=2) rfl)) ?_;refine xp rfl (OpP.sliceStr Tryz.underlying9 rfl rfl i rfl rfl (i+L) rfl (by omega) (by omega)) ?_;rw[hcut];refine xo rfl (OpX.call (vs:=[_]) Tryz.func48 rfl H.nm48 rfl (CallsH.toX (word_calls (hg.ext0 e06) ((s.drop i).take L) (by rw[List.length_take,List.length_drop];omega)))) ?_;rintro _ h7 ⟨rfl,hh7⟩;subst hh7;refine xqm 1 rfl ?_;refine RW.done rfl ?_;exact⟨rfl,at_bool rfl (by simp[hc']),rfl,rfl,rfl,rfl,rfl,rfl,rfl,rfl,rfl,rfl,rfl,rfl,trivial⟩
       · have hc':¬kd=3:=of_decide_eq_false hc;refine xqm 8 rfl ?_;refine RW.done rfl ?_;exact⟨rfl,at_bool rfl (by simp[hc']),rfl,rfl,rfl,rfl,rfl,rfl,rfl,rfl,rfl,rfl,rfl,rfl,trivial⟩
     · refine G.ite rfl rfl (fun hw=>?_) (fun hw=>?_)
       · refine G.reg Tryz.func25 rfl ?_;refine xp rfl (OpP.fieldAddr (off:=0) Tryz.underlying35 rfl rfl H.sz3 rfl) ?_;refine RW.op0 rfl rfl rfl (OpX.store H.sz3 rfl rfl rfl (w8.cell (i:=0) rfl) w8.nf) ?_;rintro _ h7 ⟨rfl,hg7⟩;have w7:=w8.set 0 (.int .i64 4);have x7:Ext (fun b=>b=h1.size) h6 h7:=by rw[hg7];exact Ext.setC _ _ _ rfl
         have w7:Blk h7 h1.size 35 (encTk (4,(i:Int),((i+L:Nat):Int))):=by rw[hg7];exact w7
         have y7:=x7.size;have e07:Ext0 h h7:=Ext0.only e06 x7 (by omega);have p7:=r7.ext x7 (show ¬h.size=h1.size by omega);have p9:=r9.ext x7 (show ¬h2.size=h1.size by omega);have hMa:¬(h1.size=h2.size∨Array.size h7≤h1.size):=by have:=e03.size;have:=e5.size;omega
         have hMb:¬(h.size=h2.size∨Array.size h7≤h.size):=by have:=e03.size;have:=e5.size;omega
         refine xd [0,1,2,3,7,8,9,10,11,12,27,41,76] rfl ?_;refine G.seq rfl ?_;refine G.draw (fun b=>b=Array.size h2∨Array.size h7≤b) (fun i=>Nat.blt i 7) (sz:=8) (listed:= #[false,false,false,false,false,false,false,false]) Tryz.func25 H.mixed rfl rfl rfl ?_;refine xtp 0 1 (by kernel_rfl) rfl (fun h' e=>OpP.loadRowN H.ag35 H.sz35 rfl (e.rowAt hMa w7.row) (by first|rfl|(simp;done)|(simp;omega))) ?_;refine xtp 1 3 (by kernel_rfl) rfl (fun h' e=>OpP.loadRowN H.ag27 H.sz27 rfl (e.rowAt hMb p7.row) (by first|rfl|(simp;done)|(simp;omega))) ?_;refine xtq 2 7 (by kernel_rfl) rfl ?_;refine xtq 4 23 (by kernel_rfl) rfl ?_;refine xto 3 31 (by kernel_rfl) rfl (OpX.call (vs:=[_,_]) Tryz.func49 rfl H.nm49 rfl (CallsH.toX (after_calls (hg.ext0 e07) st rl hst))) ?_;rintro _ h8 ⟨rfl,e8⟩;refine⟨fun _=>e8.mono (fun _ _ k=>k.elim),?_⟩;have w8':=w7.ext0 e8;refine xt0 5 63 (by kernel_rfl) rfl (OpX.storeBlk H.sz35 rfl rfl w8' (by first|rfl|(simp;done)|(simp;omega)) (by first|decide|exact of_decide_eq_true rfl|(simp;done)|(simp;omega)) (tk_one _)) ?_;rintro _ h9 ⟨rfl,w9',x9,z9⟩;refine⟨fun _=>(same_ext w8' w9' x9).mono (fun _ _ k=>k.elim),?_⟩;have w9':Blk h9 h1.size 35 (encTk (4,(i:Int),((i+L:Nat):Int))):=w9';have e9:=same_ext w8' w9' x9;have p9':=(p9.ext0 e8).ext0 e9;refine xt0 6 127 (by kernel_rfl) rfl (OpX.storeBlk H.sz27 rfl rfl p9' (by first|rfl|(simp;done)|(simp;omega)) (by first|decide|exact of_decide_eq_true rfl|(simp;done)|(simp;omega)) (lst_one _)) ?_;rintro _ h10 ⟨rfl,w10,x10,z10⟩;refine⟨fun _=>x10.mono (fun _ _ k=>.inl k),?_⟩;have w10:Blk h10 h2.size 27 (encLSt (afterP st rl)):=w10;have w11:=w9'.ext x10 (show ¬h1.size=h2.size by omega);refine xtq 7 255 (by kernel_rfl) rfl ?_;refine RD.done (by kernel_rfl) ?_;refine xu [0,1,2,3,7,8,9,10,11,12,27,41,76] rfl ?_;refine G.retC Tryz.func25 rfl (.cons (ResOk.rowN H.ag35 H.sz35 rfl (w11.row) (by first|rfl|(simp;done)|(simp;omega))) (.cons (ResOk.rowN H.ag27 H.sz27 rfl (w10.row) (by first|rfl|(simp;done)|(simp;omega))) (.cons (ResOk.tmp rfl) (.nil)))) ?_;have y10:=x10.size;exact⟨_,rfl,by rw[if_pos hw];rfl,Ext0.only ((e07.trans e8).trans e9) x10 (by omega)⟩
       · have hMa:¬(h1.size=h2.size∨Array.size h6≤h1.size):=by have:=e03.size;have:=e5.size;omega
         have hMb:¬(h.size=h2.size∨Array.size h6≤h.size):=by have:=e03.size;have:=e5.size;omega
         refine G.skip rfl ?_;refine G.seq rfl ?_;refine G.draw (fun b=>b=Array.size h2∨Array.size h6≤b) (fun i=>Nat.blt i 7) (sz:=8) (listed:= #[false,false,false,false,false,false,false,false]) Tryz.func25 H.mixed rfl rfl rfl ?_;refine xtp 0 1 (by kernel_rfl) rfl (fun h' e=>OpP.loadRowN H.ag35 H.sz35 rfl (e.rowAt hMa w8.row) (by first|rfl|(simp;done)|(simp;omega))) ?_;refine xtp 1 3 (by kernel_rfl) rfl (fun h' e=>OpP.loadRowN H.ag27 H.sz27 rfl (e.rowAt hMb r7.row) (by first|rfl|(simp;done)|(simp;omega))) ?_;refine xtq 2 7 (by kernel_rfl) rfl ?_;refine xtq 4 23 (by kernel_rfl) rfl ?_;refine xto 3 31 (by kernel_rfl) rfl (OpX.call (vs:=[_,_]) Tryz.func49 rfl H.nm49 rfl (CallsH.toX (after_calls (hg.ext0 e06) st rl hst))) ?_;rintro _ h8 ⟨rfl,e8⟩;refine⟨fun _=>e8.mono (fun _ _ k=>k.elim),?_⟩;have w8':=w8.ext0 e8;refine xt0 5 63 (by kernel_rfl) rfl (OpX.storeBlk H.sz35 rfl rfl w8' (by first|rfl|(simp;done)|(simp;omega)) (by first|decide|exact of_decide_eq_true rfl|(simp;done)|(simp;omega)) (tk_one _)) ?_;rintro _ h9 ⟨rfl,w9',x9,z9⟩;refine⟨fun _=>(same_ext w8' w9' x9).mono (fun _ _ k=>k.elim),?_⟩;have w9':Blk h9 h1.size 35 (encTk (kd,(i:Int),((i+L:Nat):Int))):=w9';have e9:=same_ext w8' w9' x9;have p9':=(r9.ext0 e8).ext0 e9;refine xt0 6 127 (by kernel_rfl) rfl (OpX.storeBlk H.sz27 rfl rfl p9' (by first|rfl|(simp;done)|(simp;omega)) (by first|decide|exact of_decide_eq_true rfl|(simp;done)|(simp;omega)) (lst_one _)) ?_;rintro _ h10 ⟨rfl,w10,x10,z10⟩;refine⟨fun _=>x10.mono (fun _ _ k=>.inl k),?_⟩;have w10:Blk h10 h2.size 27 (encLSt (afterP st rl)):=w10;have w11:=w9'.ext x10 (show ¬h1.size=h2.size by omega);refine xtq 7 255 (by kernel_rfl) rfl ?_;refine RD.done (by kernel_rfl) ?_;refine xu [0,1,2,3,7,8,9,10,11,12,27,41,76] rfl ?_;refine G.retC Tryz.func25 rfl (.cons (ResOk.rowN H.ag35 H.sz35 rfl (w11.row) (by first|rfl|(simp;done)|(simp;omega))) (.cons (ResOk.rowN H.ag27 H.sz27 rfl (w10.row) (by first|rfl|(simp;done)|(simp;omega))) (.cons (ResOk.tmp rfl) (.nil)))) ?_;have y10:=x10.size;exact⟨_,rfl,by rw[if_neg hw];rfl,Ext0.only ((e06.trans e8).trans e9) x10 (by omega)⟩
end
end Go.Proofs.YtfegacfjgjaghaaGreatDoor
namespace Go.Proofs.YtfegacfjgjaghaaGreatDoor
open Go
theorem allG_nil (n a:Nat) (st:LSt):allG n [] a st=([],st):=by cases n<;>simp[allG]
theorem allG_step {n:Nat}{l:By}(hl:l≠[]) (hn:l.length≤n) (a:Nat) (st:LSt) :
 allG n l a st=((kndP l st.1,(a:Int),((a+lenP l st.1:Nat):Int))::(allG n (l.drop (lenP l st.1)) (a+lenP l st.1) (nxtP l st)).1,(allG n (l.drop (lenP l st.1)) (a+lenP l st.1) (nxtP l st)).2):=by
 have hp:=List.length_pos_iff.2 hl;have hk:=lenP_len hl st.1;obtain⟨m,rfl⟩:∃m,n=m+1:=⟨n-1,by omega⟩
 rw[allG_more (m+1) (m+1) (l.drop (lenP l st.1)) _ _ (by rw[List.length_drop];omega) (by rw[List.length_drop];omega),←allG_more m (m+1) (l.drop (lenP l st.1)) (a+lenP l st.1) (nxtP l st) (by rw[List.length_drop];omega) (by rw[List.length_drop];omega)];rw[allG,if_neg hl]
def stsG:Nat→By→LSt→List LSt
 | 0,_,st=>[st]
 |n+1,l,st=>if l=[] then [st] else st::stsG n (l.drop (lenP l st.1)) (nxtP l st)
theorem stsG_more:∀(n k:Nat) (l:By) (st:LSt),l.length≤n→l.length≤k→stsG n l st=stsG k l st
 | 0,0,_,_,_,_=>rfl
 | 0,k+1,l,st,h,_=>by
  have:l=[]:=List.length_eq_zero_iff.1 (by omega);rw[stsG,stsG,if_pos this]
 |n+1,0,l,st,_,h=>by
  have:l=[]:=List.length_eq_zero_iff.1 (by omega);rw[stsG,stsG,if_pos this]
 |n+1,k+1,l,st,h1,h2=>by
  rw[stsG,stsG]
  by_cases hl:l=[]
  · rw[if_pos hl,if_pos hl]
  · have:=lenP_len hl st.1;rw[if_neg hl,if_neg hl,stsG_more n k _ _ (by rw[List.length_drop];omega) (by rw[List.length_drop];omega)]
theorem stsG_step {n:Nat}{l:By}(hl:l≠[]) (hn:l.length≤n) (st:LSt):stsG n l st=st::stsG n (l.drop (lenP l st.1)) (nxtP l st):=by
 have hp:=List.length_pos_iff.2 hl;have hk:=lenP_len hl st.1;obtain⟨m,rfl⟩:∃m,n=m+1:=⟨n-1,by omega⟩
 rw[stsG_more (m+1) m (l.drop (lenP l st.1)) _ (by rw[List.length_drop];omega) (by rw[List.length_drop];omega),stsG,if_neg hl]
def goG:Nat→By→Nat→LSt→Nat×LSt
 | 0,_,a,st=>(a,st)
 |j+1,l,a,st=>if l=[] then (a,st) else goG j (l.drop (lenP l st.1)) (a+lenP l st.1) (nxtP l st)
theorem goG_ge:∀(j:Nat) (l:By) (a:Nat) (st:LSt),a≤(goG j l a st).1∧(goG j l a st).1≤a+l.length
 | 0,l,a,st=>⟨Nat.le_refl _,by simp[goG]⟩
 |j+1,l,a,st=>by
  rw[goG];split
  · simp
  · rename_i h;have h1:=lenP_len h st.1;have h2:=goG_ge j (l.drop (lenP l st.1)) (a+lenP l st.1) (nxtP l st);rw[List.length_drop] at h2;omega
theorem go_all:∀(j n:Nat) (l:By) (a:Nat) (st:LSt),l.length≤n→j≤(allG n l a st).1.length →
 (allG n l a st)=((allG n l a st).1.take j++(allG n (l.drop ((goG j l a st).1-a)) (goG j l a st).1 (goG j l a st).2).1,(allG n (l.drop ((goG j l a st).1-a)) (goG j l a st).1 (goG j l a st).2).2) ∧
 stsG n l st=(stsG n l st).take j++stsG n (l.drop ((goG j l a st).1-a)) (goG j l a st).2
 | 0,n,l,a,st,hn,hj=>by simp[goG]
 |j+1,n,l,a,st,hn,hj=>by
  by_cases h0:l=[]
  · subst h0;rw[allG_nil] at hj;simp at hj
  · have h1:=lenP_len h0 st.1;rw[allG_step h0 hn] at hj ⊢;rw[stsG_step h0 hn,goG,if_neg h0];obtain⟨e1,e2⟩:=go_all j n (l.drop (lenP l st.1)) (a+lenP l st.1) (nxtP l st) (by rw[List.length_drop];omega) (by simpa using hj);have hg:=goG_ge j (l.drop (lenP l st.1)) (a+lenP l st.1) (nxtP l st);generalize goG j (l.drop (lenP l st.1)) (a+lenP l st.1) (nxtP l st)=q at *;rw[List.drop_drop,show lenP l st.1+(q.1-(a+lenP l st.1))=q.1-a by omega] at e1 e2;refine⟨?_,?_⟩
    · rw[Prod.mk.injEq];refine⟨?_,?_⟩
      · rw[List.take_succ_cons,List.cons_append]
        congr 1
        have:=congrArg Prod.fst e1;exact this
      · have:=congrArg Prod.snd e1;exact this
    · rw[List.take_succ_cons,List.cons_append]
      congr 1
theorem tok_at:∀(j n:Nat) (l:By) (a:Nat) (st:LSt),l.length≤n→j<(allG n l a st).1.length→(goG j l a st).1<a+l.length ∧
 (allG n l a st).1[j]? =some (kndP (l.drop ((goG j l a st).1-a)) (goG j l a st).2.1,((goG j l a st).1:Int),(((goG j l a st).1+lenP (l.drop ((goG j l a st).1-a)) (goG j l a st).2.1:Nat):Int))∧(stsG n l st)[j]? =some (goG j l a st).2 ∧
 (goG (j+1) l a st).1=(goG j l a st).1+lenP (l.drop ((goG j l a st).1-a)) (goG j l a st).2.1∧(goG (j+1) l a st).2=nxtP (l.drop ((goG j l a st).1-a)) (goG j l a st).2:=fun j n l a st hn hj=>by
 induction j generalizing l a st with
 |zero =>
  by_cases h0:l=[]
  · subst h0;rw[allG_nil] at hj;simp at hj
  · have:=List.length_pos_iff.2 h0;rw[allG_step h0 hn,stsG_step h0 hn];simp[goG,h0];omega
 |succ j ih =>
  by_cases h0:l=[]
  · subst h0;rw[allG_nil] at hj;simp at hj
  · have h1:=lenP_len h0 st.1;rw[allG_step h0 hn] at hj ⊢;rw[stsG_step h0 hn];have hih:=ih (l.drop (lenP l st.1)) (a+lenP l st.1) (nxtP l st) (by rw[List.length_drop];omega) (by simpa using hj);have hg:=goG_ge j (l.drop (lenP l st.1)) (a+lenP l st.1) (nxtP l st);have e1:goG (j+1) l a st=goG j (l.drop (lenP l st.1)) (a+lenP l st.1) (nxtP l st):=by rw[goG,if_neg h0]
    have e2:goG (j+1+1) l a st=goG (j+1) (l.drop (lenP l st.1)) (a+lenP l st.1) (nxtP l st):=by rw[goG,if_neg h0]
    rw[e2,e1];generalize goG (j+1) (l.drop (lenP l st.1)) (a+lenP l st.1) (nxtP l st)=q2 at *;generalize goG j (l.drop (lenP l st.1)) (a+lenP l st.1) (nxtP l st)=q at *;rw[List.drop_drop,List.length_drop,show lenP l st.1+(q.1-(a+lenP l st.1))=q.1-a by omega] at hih;refine⟨by omega,?_,?_,hih.2.2.2⟩
    · simpa using hih.2.1
    · simpa using hih.2.2.1
end Go.Proofs.YtfegacfjgjaghaaGreatDoor
namespace Go.Proofs.YtfegacfjgjaghaaGreatDoor
open Go Go.Lw
set_option maxRecDepth 20000
theorem one_out {h:Heap}{p:Value}{b:Bool}(hn:∀g,Ext0 h g→CallsH Tryz.prog 44 #[p] g (Ret fun r h'=>r= .bool b∧h'=g)) (s:By) (i:Int) (hs:s.length≤1000000) (st:LSt) (hb:b=true∨i<0∨(s.length:Int)≤i) :
 CallsH Tryz.prog 25 #[p,.string (bs s),.int .i64 i,.agg (encLSt st).toArray] h (Ret fun r h'=>r= .tuple #[.agg (encTk (0,0,0)).toArray,.agg (encLSt st).toArray,.int .i64 0]∧Ext0 h h'):=by
 have hbs:=bs_size s;refine CallsH.of Tryz.func25 rfl rfl ?_;refine xr Tryz.func25 rfl ?_;refine xo rfl (OpX.boxN rfl) ?_;rintro _ h1 ⟨rfl,k7,e1,z1⟩;refine xo rfl (OpX.allocN H.zr35) ?_;rintro _ h2 ⟨rfl,k8,e2,z2⟩;refine xo rfl (OpX.allocN H.zr27) ?_;rintro _ h3 ⟨rfl,k9,e3,z3⟩;have k7:Blk h1 h.size 27 (encLSt st):=k7;have k8:Blk h2 h1.size 35 (encTk (0,0,0)):=k8;have k9:Blk h3 h2.size 27 (encLSt (0,0)):=k9;have e03:=(e1.trans e2).trans e3;have q7:=(k7.ext0 e2).ext0 e3;have q8:=k8.ext0 e3;have y1:=e1.size;have y2:=e2.size;refine xqd 1 [0,1,2,3,7,8,9,10] rfl ?_;refine G.seq rfl ?_;refine G.seq rfl ?_;refine G.regTo1 [(27,.bool true)] [(0,_),(1,_),(2,_),(3,_),(7,_),(8,_),(9,_),(10,_)] ⟨rfl,rfl,rfl,rfl,rfl,rfl,rfl,rfl,trivial⟩ Tryz.func25 rfl ?_ ?_
 · refine xqm 1 rfl ?_;refine xo rfl (OpX.call (vs:=[_]) Tryz.func44 rfl H.nm44 rfl (CallsH.toX (hn _ e03))) ?_;rintro _ h4 ⟨rfl,hh4⟩;subst hh4;refine xqm 1 rfl ?_;refine RW.split (d:=18) rfl (fun c1=>?_) (fun c1=>?_)
   · refine xqm 9 rfl ?_;refine RW.done rfl ?_;exact⟨rfl,at_bool rfl (rfl),rfl,rfl,rfl,rfl,rfl,rfl,rfl,rfl,trivial⟩
   · refine xqm 4 rfl ?_;refine RW.split (d:=22) rfl (fun c2=>?_) (fun c2=>?_)
     · refine xqm 5 rfl ?_;refine RW.done rfl ?_;exact⟨rfl,at_bool rfl (rfl),rfl,rfl,rfl,rfl,rfl,rfl,rfl,rfl,trivial⟩
     · have c2':=of_decide_eq_false c2;refine xqp 2 rfl rfl (OpP.lenString Tryz.underlying9 rfl) ?_;refine xqm 2 rfl ?_;refine RW.done rfl ?_;exact⟨rfl,at_bool rfl (by rw[decide_eq_true_iff];rcases hb with k|k|k;rw[c1] at k;cases k;exact absurd k c2';omega),rfl,rfl,rfl,rfl,rfl,rfl,rfl,rfl,trivial⟩
 · refine G.cond rfl rfl (fun _=>?_) (fun hc=>absurd hc (by decide));have hM:¬(h.size=h1.size∨Array.size h3≤h.size):=by have:=e03.size;omega
   refine G.seq rfl ?_;refine G.draw (fun b=>b=Array.size h1∨Array.size h3≤b) (fun i=>Nat.blt i 3) (sz:=5) (listed:= #[false,false,false,false,false]) Tryz.func25 H.mixed rfl rfl rfl ?_;refine xtp 0 1 (by kernel_rfl) rfl (fun h' e=>OpP.build (H.bd35_ ) rfl) ?_;refine xtp 1 3 (by kernel_rfl) rfl (fun h' e=>OpP.loadRowN H.ag27 H.sz27 rfl (e.rowAt hM q7.row) (by first|rfl|(simp;done)|(simp;omega))) ?_;refine xt0 2 7 (by kernel_rfl) rfl (OpX.storeBlk H.sz35 rfl rfl q8 (by first|rfl|(simp;done)|(simp;omega)) (by first|decide|exact of_decide_eq_true rfl|(simp;done)|(simp;omega)) (by first|decide|simp[Value.oneCell'])) ?_;rintro _ h4 ⟨rfl,w8,x4,zz4⟩;refine⟨fun _=>x4.mono (fun _ _ k=>.inl k),?_⟩;have w8:Blk h4 h1.size 35 (encTk (0,0,0)):=w8;refine xt0 3 15 (by kernel_rfl) rfl (OpX.storeBlk H.sz27 rfl rfl (k9.ext x4 (show ¬h2.size=h1.size by omega)) (by first|rfl|(simp;done)|(simp;omega)) (by first|decide|exact of_decide_eq_true rfl|(simp;done)|(simp;omega)) (lst_one st)) ?_;rintro _ h5 ⟨rfl,w9,x5,z5⟩;refine⟨fun hk=>(nomatch hk),?_⟩;refine xtq 4 31 (by kernel_rfl) rfl ?_;refine RD.done (by kernel_rfl) ?_;refine xu [0,1,2,3,7,8,9,10,27] rfl ?_;have w9:Blk h5 h2.size 27 (encLSt st):=w9;have w8:=w8.ext x5 (show ¬h1.size=h2.size by omega);refine G.retC Tryz.func25 rfl (.cons (ResOk.rowN H.ag35 H.sz35 rfl (w8.row) (by first|rfl|(simp;done)|(simp;omega))) (.cons (ResOk.rowN H.ag27 H.sz27 rfl (w9.row) (by first|rfl|(simp;done)|(simp;omega))) (.cons (ResOk.tmp rfl) (.nil)))) ?_;exact⟨_,rfl,rfl,Ext0.only (Ext0.only e03 x4 (by omega)) x5 (by omega)⟩
def eTk:Elt Tk:=.record 3 (by decide) encTk (fun _=>rfl) tk_one
theorem wrap_i32 {i:Int}(h : -2147483648≤i∧i≤2147483647):IntKind.i32.wrap i=i:=by
 have h1:(2:Int) ^ 32=4294967296:=by decide
 have h2:(2:Int) ^ 31=2147483648:=by decide
 simp only[IntKind.wrap,IntKind.bits,IntKind.signed,Bool.true_and,decide_eq_true_eq,Nat.reduceSub,h1,h2];split<;>omega
end Go.Proofs.YtfegacfjgjaghaaGreatDoor
namespace Go.Proofs.YtfegacfjgjaghaaGreatDoor
def orB (a b:List Bool):List Bool:=List.zipWith (· || ·) a b
def followB (last first:List Bool) (bh:List (List Bool)):List (List Bool):=List.zipWith (fun l b=>if l then orB b first else b) last bh
structure PartP where
 null:Bool
 first:List Bool
 last:List Bool
abbrev RuS:=List Nat×List (List Bool)
def nob (size:Nat):List Bool:=List.replicate size false
mutual
def cnt:Nd→Nat
 |.mk k _ kids=>(if k=1 then 1 else 0)+cntL kids
def cntL:List Nd→Nat
 | []=>0
 |x::r=>cnt x+cntL r
end
def catPart (p k:PartP):PartP:=⟨p.null && k.null,if p.null then orB p.first k.first else p.first,if k.null then orB p.last k.last else k.last⟩
def altPart (p k:PartP):PartP:=⟨p.null ||k.null,orB p.first k.first,orB p.last k.last⟩
mutual
def glu (size:Nat):Nd→RuS→PartP×RuS
 |.mk k s kids,st =>
  if k=1 then (⟨false,(nob size).set st.1.length true,(nob size).set st.1.length true⟩,(st.1++[s],st.2))
  else if k=2 then gluCat size kids ⟨true,nob size,nob size⟩ st
  else if k=3 then gluAlt size kids ⟨false,nob size,nob size⟩ st
  else if k=4∨k=5 then
   (⟨(gluOne size kids st).1.null ||k ==4,(gluOne size kids st).1.first,(gluOne size kids st).1.last⟩,((gluOne size kids st).2.1,followB (gluOne size kids st).1.last (gluOne size kids st).1.first (gluOne size kids st).2.2))
  else if k=6 then (⟨true,(gluOne size kids st).1.first,(gluOne size kids st).1.last⟩,(gluOne size kids st).2)
  else (⟨true,nob size,nob size⟩,st)
def gluCat (size:Nat):List Nd→PartP→RuS→PartP×RuS
 | [],p,st=>(p,st)
 |x::r,p,st=>gluCat size r (catPart p (glu size x st).1) ((glu size x st).2.1,followB p.last (glu size x st).1.first (glu size x st).2.2)
def gluAlt (size:Nat):List Nd→PartP→RuS→PartP×RuS
 | [],p,st=>(p,st)
 |x::r,p,st=>gluAlt size r (altPart p (glu size x st).1) (glu size x st).2
def gluOne (size:Nat):List Nd→RuS→PartP×RuS
 | [],st=>(⟨true,nob size,nob size⟩,st)
 |x::_,st=>glu size x st
end
structure RuP where
 sets:List Nat
 behind:List (List Bool)
 last:List Bool
structure PartOk (n:Nat) (p:PartP):Prop where
 first:p.first.length=n
 last:p.last.length=n
structure RuOk (n:Nat) (st:RuS):Prop where
 rows:st.2.length=n
 each:∀b∈st.2,b.length=n
section
variable (S:Nat→UInt8→Prop)
inductive PAcc (G:Nat→Nat→Prop) (E:Nat→Prop):Nat→By→Prop where
 |done {p:Nat}:E p→PAcc G E p []
 |go {p q:Nat}{c:UInt8}{w:By}:G p q→S q c→PAcc G E q w→PAcc G E p (c::w)
def Ent (G:Nat→Nat→Prop) (E:Nat→Prop) (F:Nat→Prop) (w:By):Prop:=∃c w',w=c::w'∧∃q,F q∧S q c∧PAcc S G E q w'
def Cont (G:Nat→Nat→Prop) (E:Nat→Prop) (N:Nat→Prop) (e:Prop) (v:By):Prop:=(v=[]∧e)∨Ent S G E N v
structure Glu (lo hi:Nat) (null:Bool) (F L:Nat→Prop) (Fol:Nat→Nat→Prop) (A:By→Prop):Prop where
 fr:∀q,F q→lo≤q∧q<hi
 lr:∀q,L q→lo≤q∧q<hi
 gr:∀p q,Fol p q→(lo≤p∧p<hi)∧lo≤q∧q<hi
 nul:null=true↔A []
 ent:∀(G:Nat→Nat→Prop) (E N:Nat→Prop) (e:Prop),(∀p q,lo≤p→p<hi→(G p q↔Fol p q∨(L p∧N q)))→(∀p,lo≤p→p<hi→(E p↔L p∧e)) →
  ∀w,Ent S G E F w↔∃u v,w=u++v∧u≠[]∧A u∧Cont S G E N e v
end
section
variable {S:Nat→UInt8→Prop}{lo mid hi:Nat}{n1 n2 null:Bool}{F F1 F2 L L1 L2:Nat→Prop}{Fol Fol1 Fol2:Nat→Nat→Prop}{A B:By→Prop}{G:Nat→Nat→Prop}{E N:Nat→Prop}{e:Prop}
end
section
variable {S:Nat→UInt8→Prop}(n:Nat)
end
structure RuleOk (r:RuP) (n:Nat):Prop where
 pos:0<r.sets.length
 sets:r.sets.length≤n
 rows:r.behind.length=n
 each:∀b∈r.behind,b.length=n
 last:r.last.length=n
end Go.Proofs.YtfegacfjgjaghaaGreatDoor
namespace Go.Proofs.YtfegacfjgjaghaaGreatDoor
open Go Go.Lw
set_option maxRecDepth 20000
def RowAt (h:Heap) (O:Nat→Prop) (cs:List Value) (x:List Bool):Prop:=∃v,cs=[v]∧SlR .bool h O v x
def eRow:Elt (List Bool):=⟨1,by decide,RowAt,fun h=>by obtain⟨v,rfl,_⟩:=h;rfl,fun h=>by
 obtain⟨v,rfl,hv⟩:=h;intro u hu;simp at hu;subst hu;exact SlR.isOne hv,fun h m=>by
 obtain⟨v,hc,hv⟩:=h;exact⟨v,hc,hv.mv m⟩⟩
structure RuAt (h:Heap) (O:Nat→Prop) (rb:Nat) (vs vb vl:Value) (st:RuS):Prop where
 blk:Blk h rb 184 [vs,vb,vl]
 sets:OwR 4 encSet h 0 78 vs st.1
 rows:OwX eRow (fun b=>b=rb∨but vs.ownBlock b∨O b) h 0 106 vb st.2
 apart:∀b,vs.ownBlock=some b→vb.ownBlock≠some b
 ns:vs.ownBlock≠some rb
 nb:vb.ownBlock≠some rb
abbrev ruM (rb:Nat) (vs vb:Value):Nat→Prop:=fun b=>b=rb∨but vs.ownBlock b∨but vb.ownBlock b
def ruO (O L:Nat→Prop):Nat→Prop:=fun b=>O b∨L b
structure RuL (O:Nat→Prop) (rb:Nat) (vs vb vl:Value) (h:Heap) (L:Nat→Prop) (hi:Nat) (g:Heap) (vs':Value) (st':RuS):Prop where
 at_:RuAt g (ruO O L) rb vs' vb vl st'
 ext:Ext (ruM rb vs vb) h g
 own:∀b,vs'.ownBlock=some b→vs.ownBlock=some b∨hi≤b
 size:hi≤g.size
 base:h.size≤hi
 lt:∀b,ruM rb vs vb b→b<h.size
 o:∀b,O b→b<h.size
 l:∀b,L b→h.size≤b∧b<hi
section
variable {O L:Nat→Prop}{rb:Nat}{vs vb vl vs' vs2:Value}{h g g2:Heap}{hi:Nat}{st' st2:RuS}
structure LocB (b4 b6:Nat) (nd:List Value) (g:Heap):Prop where
 k4:Blk g b4 153 nd
 k6:Blk g b6 186 [.bool false,.slice none 0 0,.slice none 0 0]
end
theorem lall_calls {h:Heap}{p:Value}(hg:LxG h) (k:LexAt h p) (s:By) (hs:s.length≤1000000) :
 CallsH Tryz.prog 13 #[p,.string (bs s)] h (Ret fun r h'=>(∃v,r= .tuple #[v,.agg (encLSt (allP s).2).toArray]∧SlR eTk h' (fun _=>False) v (allP s).1)∧Ext0 h h'):=by
 have hbs:=bs_size s;generalize hres:allP s=res;refine CallsH.of Tryz.func13 rfl rfl ?_;refine xra Tryz.func13 1 rfl ?_;refine xo rfl (OpX.allocN H.zr27) ?_;rintro _ h1 ⟨rfl,k5,e1,z1⟩;have k5:Blk h1 h.size 27 (encLSt (0,0)):=k5;have y1:=e1.size;refine xd [0,1,4,5] rfl ?_;refine G.scope rfl ?_;refine xrd Tryz.func13 1 [0,1,4,5,6] rfl ?_;refine G.seq rfl ?_;refine G.label rfl ?_;refine G.seq rfl ?_;refine G.block rfl rfl ?_;refine G.loop (σ:=Nat×LSt×Value×List Tk) (fun q=>[(0,p),(1,.string (bs s)),(4,q.2.2.1),(5,.pointer (some ⟨h.size,0,none⟩)),(6,.int .i64 (q.1:Nat))]) (fun q h'=>(q.1≤s.length∧q.2.2.2.length≤q.1∧I64 q.2.1.2)∧Ext0 h h'∧h1.size≤h'.size∧Blk h' h.size 27 (encLSt q.2.1)∧OwR 3 encTk h' h1.size 35 q.2.2.1 q.2.2.2∧(q.2.2.2++(allG s.length (s.drop q.1) q.1 q.2.1).1,(allG s.length (s.drop q.1) q.1 q.2.1).2)=res) (fun q=>s.length+1-q.1) ((0,(0,0),.slice none 0 0,[])) rfl ⟨rfl,rfl,rfl,rfl,rfl,trivial⟩ ⟨⟨Nat.zero_le _,by simp,by show I64 0;unfold I64;omega⟩,e1,Nat.le_refl _,k5,OwR.nil _ _ _ _ _,hres⟩ ?_;rintro⟨i,st,vt,toks⟩ g ⟨⟨hi,htl,hst⟩,eg,hz,kS,ho,hcon⟩ ih
 try dsimp only
 dsimp only at hi htl hst kS ho hcon;have hho:OwnH g h1.size 35 3 vt toks.length (toks.flatMap encTk):=ho;obtain⟨ta,tc,rfl,_⟩:=hho.open;have tge:∀b,(Value.slice ta toks.length tc).ownBlock=some b→h1.size≤b∧b<g.size:=fun b hb=>hho.lt hb
 rcases Nat.lt_or_ge i s.length with hlt|hge
 · have hne:s.drop i≠[]:=fun e=>by have:=congrArg List.length e;rw[List.length_drop] at this;simp at this;omega
   have hkl:=lenP_len hne st.1;rw[List.length_drop] at hkl;rw[allG_step hne (by rw[List.length_drop];omega)] at hcon;have hone:=one_calls (hg.ext0 eg) (k.ext0 eg) s i hlt hs st hst;unfold oneV at hone;have hnI:=nxt_I64 hst (s.drop i);rw[List.drop_drop] at hcon;generalize lenP (s.drop i) st.1=L at *;generalize kndP (s.drop i) st.1=kd at *;generalize nxtP (s.drop i) st=nx at *;generalize lexS st.1 (s.drop i)=sp at *;refine G.block rfl rfl ?_;refine xra Tryz.func13 3 rfl ?_;refine xp rfl (OpP.loadRowN H.ag27 H.sz27 rfl kS.row (by first|rfl|(simp;done)|(simp;omega))) ?_;refine xo rfl (OpX.call (vs:=[_,_,_,_]) Tryz.func25 rfl H.nm25 rfl (CallsH.toX (hone))) ?_;rintro _ g1 ⟨rfl,f1⟩;refine xqm 4 rfl ?_;refine xo rfl (OpX.allocN H.zr35) ?_;rintro _ g2 ⟨rfl,c7,f2,y2⟩;refine xo rfl (OpX.allocN H.zr27) ?_;rintro _ g3 ⟨rfl,c8,f3,y3⟩;refine RW.op0 rfl rfl rfl (OpX.storeBlk H.sz35 rfl rfl (c7.ext0 f3) (by first|rfl|(simp;done)|(simp;omega)) (by first|decide|exact of_decide_eq_true rfl|(simp;done)|(simp;omega)) (tk_one _)) ?_;rintro _ g4 ⟨rfl,d7,x4,y4⟩;have d7:Blk g4 g1.size 35 (encTk (kd,(i:Int),((i+L:Nat):Int))):=d7;have yz1:=f1.size;have yz2:=f2.size;have yz4:=x4.size;refine RW.op0 rfl rfl rfl (OpX.storeBlk H.sz27 rfl rfl ((c8.ext x4 (show ¬g2.size=g1.size by omega))) (by first|rfl|(simp;done)|(simp;omega)) (by first|decide|exact of_decide_eq_true rfl|(simp;done)|(simp;omega)) (lst_one nx)) ?_;rintro _ g5 ⟨rfl,d8,x5,y5⟩;have d8:Blk g5 g2.size 27 (encLSt nx):=d8;have d7:=d7.ext x5 (show ¬g1.size=g2.size by omega);have yz5:=x5.size;have eg5:Ext0 g g5:=Ext0.only (Ext0.only ((f1.trans f2).trans f3) x4 (by omega)) x5 (by omega);have hho5:=hho.ext0' eg5;refine xqd 1 [0,1,4,5,6,7,8] rfl ?_;refine G.seq rfl ?_;refine G.block rfl rfl ?_;refine xr Tryz.func13 rfl ?_;refine xp rfl (OpP.fieldAddr (off:=2) Tryz.underlying35 rfl rfl H.sz3 rfl) ?_;refine xp rfl (OpP.load H.ag3 rfl (d7.cell (i:=2) rfl)) ?_;refine xqd 3 [0,1,4,5,6,7,8,19] rfl ?_;refine G.cond rfl rfl (fun hc=>absurd hc (by simp;omega)) (fun _=>?_);refine G.skip rfl ?_;refine G.blkEnd ?_;refine xra Tryz.func13 1 rfl ?_;refine xp rfl (OpP.loadRowN H.ag35 H.sz35 rfl d7.row (by first|rfl|(simp;done)|(simp;omega))) ?_;refine xo rfl (OpX.buildRec (cs:=[_,_,_]) Tryz.underlying25 H.el35 rfl rfl (by decide)) ?_;rintro _ _ ⟨rfl,rfl⟩;refine xo rfl (OpX.appendNew Tryz.underlying25 H.el35 rfl rfl (hho5) rfl rfl (tk_one _) (by omega) (by decide) (by omega)) ?_;rintro vt2 g6 ⟨ho6,hx6,hx6',hv6⟩;have yz6:=hx6.size;have d7:=d7.ext hx6 (fun k=>by have:=tge _ k.symm;omega);have d8:=d8.ext hx6 (fun k=>by have:=tge _ k.symm;omega);have kS6:=(kS.ext0 eg5).ext hx6 (fun k=>by have:=tge _ k.symm;omega);have e06:Ext0 h g6:=Ext.own (eg.trans eg5) hho5 (by omega) hx6;have ho6:OwR 3 encTk g6 h1.size 35 vt2 (toks++[(kd,(i:Int),((i+L:Nat):Int))]):=OwR.of ho6 rfl rfl;have hMa:¬(g1.size=h.size∨Array.size g6≤g1.size):=by omega
   have hMb:¬(g2.size=h.size∨Array.size g6≤g2.size):=by omega
   refine xqd 1 [0,1,4,5,6,7,8,19] rfl ?_;refine G.draw (fun b=>b=Array.size h∨Array.size g6≤b) (fun i=>Nat.blt i 6) (sz:=5) (listed:= #[false,false,false,false,false]) Tryz.func13 H.mixed rfl rfl rfl ?_;refine xtp 0 1 (by kernel_rfl) rfl (fun h' e=>OpP.fieldAddr (off:=2) Tryz.underlying35 rfl rfl H.sz3 rfl) ?_;refine xtp 1 3 (by kernel_rfl) rfl (fun h' e=>OpP.load H.ag3 rfl (e.cell hMa (d7.cell (i:=2) rfl))) ?_;refine xtp 2 7 (by kernel_rfl) rfl (fun h' e=>OpP.loadRowN H.ag27 H.sz27 rfl (e.rowAt hMb d8.row) (by first|rfl|(simp;done)|(simp;omega))) ?_;refine xtq 3 15 (by kernel_rfl) rfl ?_;refine xt0 4 31 (by kernel_rfl) rfl (OpX.storeBlk H.sz27 rfl rfl kS6 (by first|rfl|(simp;done)|(simp;omega)) (by first|decide|exact of_decide_eq_true rfl|(simp;done)|(simp;omega)) (lst_one nx)) ?_;rintro _ g7 ⟨rfl,kS7,x7,y7⟩;refine⟨fun _=>x7.mono (fun _ _ k=>.inl k),?_⟩;have kS7:Blk g7 h.size 27 (encLSt nx):=kS7;have ho7:OwR 3 encTk g7 h1.size 35 vt2 (toks++[(kd,(i:Int),((i+L:Nat):Int))]):=OwnH.ext x7 ho6 (fun b hb (k:b=h.size)=>by have:=(OwnH.lt ho6 hb).1;omega);refine RD.done (by kernel_rfl) ?_;refine xu [0,1,4,5,6,7,8,19] rfl ?_;refine G.blkEnd ?_;exact ih (i+L,nx,vt2,toks++[(kd,(i:Int),((i+L:Nat):Int))]) _ _ ⟨rfl,rfl,rfl,rfl,rfl,trivial⟩ ⟨⟨by show i+L≤s.length;omega,by simp;omega,hnI⟩,Ext0.only e06 x7 (by omega),by have:=x7.size;show h1.size≤g7.size;omega,kS7,ho7,by simpa using hcon⟩ (by show s.length+1-(i+L)<s.length+1-i;omega)
 · obtain rfl:i=s.length:=by omega
   have hone:=one_out (h:=g) (p:=p) (b:=false) (fun g' eg'=>lnone_at (k.ext0 (eg.trans eg'))) s (s.length:Nat) hs st (.inr (.inr (by omega)));rw[List.drop_length,allG_nil] at hcon;refine G.block rfl rfl ?_;refine xra Tryz.func13 3 rfl ?_;refine xp rfl (OpP.loadRowN H.ag27 H.sz27 rfl kS.row (by first|rfl|(simp;done)|(simp;omega))) ?_;refine xo rfl (OpX.call (vs:=[_,_,_,_]) Tryz.func25 rfl H.nm25 rfl (CallsH.toX (hone))) ?_;rintro _ g1 ⟨rfl,f1⟩;refine xqm 4 rfl ?_;refine xo rfl (OpX.allocN H.zr35) ?_;rintro _ g2 ⟨rfl,c7,f2,y2⟩;refine xo rfl (OpX.allocN H.zr27) ?_;rintro _ g3 ⟨rfl,c8,f3,y3⟩;refine RW.op0 rfl rfl rfl (OpX.storeBlk H.sz35 rfl rfl (c7.ext0 f3) (by first|rfl|(simp;done)|(simp;omega)) (by first|decide|exact of_decide_eq_true rfl|(simp;done)|(simp;omega)) (tk_one _)) ?_;rintro _ g4 ⟨rfl,d7,x4,y4⟩;have d7:Blk g4 g1.size 35 (encTk (0,0,0)):=d7;have yz1:=f1.size;have yz2:=f2.size;have yz4:=x4.size;refine RW.op0 rfl rfl rfl (OpX.storeBlk H.sz27 rfl rfl ((c8.ext x4 (show ¬g2.size=g1.size by omega))) (by first|rfl|(simp;done)|(simp;omega)) (by first|decide|exact of_decide_eq_true rfl|(simp;done)|(simp;omega)) (lst_one st)) ?_;rintro _ g5 ⟨rfl,d8,x5,y5⟩;have d7:=d7.ext x5 (show ¬g1.size=g2.size by omega);have yz5:=x5.size;have eg5:Ext0 g g5:=Ext0.only (Ext0.only ((f1.trans f2).trans f3) x4 (by omega)) x5 (by omega);have hho5:=ho.ext0 eg5;have kS5:=kS.ext0 eg5;refine xqd 1 [0,1,4,5,6,7,8] rfl ?_;refine G.seq rfl ?_;refine G.block rfl rfl ?_;refine xr Tryz.func13 rfl ?_;refine xp rfl (OpP.fieldAddr (off:=2) Tryz.underlying35 rfl rfl H.sz3 rfl) ?_;refine xp rfl (OpP.load H.ag3 rfl (d7.cell (i:=2) rfl)) ?_;refine xqd 3 [0,1,4,5,6,7,8,19] rfl ?_;refine G.cond rfl rfl (fun _=>?_) (fun hc=>absurd hc (by simp));have hMa:¬(h.size=h.size∧Array.size g5≤h.size):=by omega
   refine G.exit rfl rfl ?_;refine G.seq rfl ?_;refine G.draw (fun b=>Array.size g5≤b) (fun i=>Nat.blt i 5) (sz:=4) (listed:= #[false,false,false,false]) Tryz.func13 H.mixed rfl rfl rfl ?_;refine xtq 0 1 (by kernel_rfl) rfl ?_;refine xtp 1 3 (by kernel_rfl) rfl (fun h' e=>OpP.loadRowN H.ag27 H.sz27 rfl (e.rowAt (by omega) kS5.row) (by first|rfl|(simp;done)|(simp;omega))) ?_;refine xtq 2 7 (by kernel_rfl) rfl ?_;refine xt0 3 15 (by kernel_rfl) rfl (OpX.storeBlk H.sz27 rfl rfl kS5 (by first|rfl|(simp;done)|(simp;omega)) (by first|decide|exact of_decide_eq_true rfl|(simp;done)|(simp;omega)) (lst_one st)) ?_;rintro _ g7 ⟨rfl,kS7,x7,y7⟩;refine⟨fun _=>(same_ext kS5 kS7 x7).mono (fun _ _ k=>k.elim),?_⟩;have kS7:Blk g7 h.size 27 (encLSt st):=kS7;have e7:=same_ext kS5 kS7 x7;refine RD.done (by kernel_rfl) ?_;refine xu [0,1,4,5,6,7,8,19] rfl ?_;refine G.retC Tryz.func13 rfl (.cons (ResOk.tmp rfl) (.cons (ResOk.rowN H.ag27 H.sz27 rfl (kS7.row) (by first|rfl|(simp;done)|(simp;omega))) (.nil))) ?_;rw[←hcon];exact⟨_,rfl,⟨_,rfl,by show SlR eTk g7 _ _ (toks++[]);rw[List.append_nil];exact OwR.read (hho5.ext0 e7) (fun b hb k=>k)⟩,(eg.trans eg5).trans e7⟩
end Go.Proofs.YtfegacfjgjaghaaGreatDoor
